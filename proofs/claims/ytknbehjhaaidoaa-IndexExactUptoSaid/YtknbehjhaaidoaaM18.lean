/- IndexExact: the texts TeA TeB of this seat, one behind the other. -/
import Derived.Test.YtknbehjhaaidoaaM16
import Derived.Laws.StructEq
/- kept.tells: its operations. -/
namespace Go.Proofs.Ytknbehjhaaidoaa.IX
open Go.RowKit Go.Shelf Mem HD TB
set_option linter.unusedVariables false
set_option linter.unusedSimpArgs false
theorem ent_ext {a b : Ent} : a = b ↔ a.seg = b.seg ∧ a.off = b.off ∧ a.size = b.size ∧ a.mark = b.mark := by
  obtain ⟨a1, a2, a3, a4⟩ := a
  obtain ⟨b1, b2, b3, b4⟩ := b
  simp
instance : DecidableEq Ent := fun a b => decidable_of_iff _ ent_ext.symm
section
variable {a : Act} {o : Oper} {w : World}
theorem y_neqE {x y : Operand} {e e' : Ent} {d : Bool} (hd : decide (e = e') = d) (ho : o.op = .binOp .neq 56 x y 56) (hx : a.eval x = .agg e.L.toArray) (hy : a.eval y = .agg e'.L.toArray) : (execOp a.eval o).run Try.prog w = .ok (.value (.bool (!d))) w := by
  subst hd
  obtain ⟨s, u, z, m⟩ := e
  obtain ⟨s', u', z', m'⟩ := e'
  have h1 : (⟨s, u, z, m⟩ : Ent).L.toArray = #[.int .i64 s, .int .i64 u, .int .i64 z, .int .u32 m] := rfl
  have h2 : (⟨s', u', z', m'⟩ : Ent).L.toArray = #[.int .i64 s', .int .i64 u', .int .i64 z', .int .u32 m'] := rfl
  rw [h1] at hx
  rw [h2] at hy
  generalize a.eval = ev at hx hy
  unfold execOp
  simp only [ho, hx, hy]
  go_simp
  by_cases c1 : s = s' <;> by_cases c2 : u = u' <;> by_cases c3 : z = z' <;> by_cases c4 : m = m' <;> simp [c1, c2, c3, c4]
theorem y_neqKd {x y : Operand} {k k' : Key} {d : Bool} (hd : decide (k = k') = d) (ho : o.op = .binOp .neq 39 x y 39) (hx : a.eval x = .agg k.L.toArray) (hy : a.eval y = .agg k'.L.toArray) : (execOp a.eval o).run Try.prog w = .ok (.value (.bool (!d))) w := by
  subst hd
  generalize a.eval = ev at hx hy
  unfold execOp
  simp only [ho, hx, hy, Sem.run_bind, run_eqGuard_agg (P := Try.prog) w .neq 39 x y k.L.toArray k'.L.toArray key_guard, Result.andThen_ok, run_neq_struct, key_equal, Sem.run_pure, key_eq_iff]

theorem y_fk0' {x : Operand} {b off : Nat} (ho : o.op = .fieldAddr 58 x 0) (hx : a.eval x = .pointer (some ⟨b, off, none⟩)) : (execOp a.eval o).run Try.prog w = .ok (.value (.pointer (some ⟨b, off, none⟩))) w := by
  generalize a.eval = ev at hx
  unfold execOp
  simp only [ho, hx]
  go_simp
theorem y_fk1' {x : Operand} {b off : Nat} (ho : o.op = .fieldAddr 58 x 1) (hx : a.eval x = .pointer (some ⟨b, off, none⟩)) : (execOp a.eval o).run Try.prog w = .ok (.value (.pointer (some ⟨b, off + 32, none⟩))) w := by
  generalize a.eval = ev at hx
  unfold execOp
  simp only [ho, hx]
  go_simp
theorem y_lenkv' {x : Operand} {A : Option Addr} {n c : Nat} (ho : o.op = .call { callee := .builtin .len, args := #[x], argTypes := #[77] }) (hx : a.eval x = .slice A n c) : (execOp a.eval o).run Try.prog w = .ok (.value (.int .i64 (n : Int))) w := by
  generalize a.eval = ev at hx
  unfold execOp
  simp only [ho, hx]
  go_simp
theorem y_geqi {x y : Operand} {m n : Int} {d : Bool} (hd : decide (m ≥ n) = d) (ho : o.op = .binOp .geq 3 x y 3) (hx : a.eval x = .int .i64 m) (hy : a.eval y = .int .i64 n) : (execOp a.eval o).run Try.prog w = .ok (.value (.bool d)) w := by
  subst hd
  generalize a.eval = ev at hx hy
  unfold execOp
  simp only [ho, hx, hy]
  go_simp
theorem y_fkt {x : Operand} {g k : Nat} (hk : k < 2) (ho : o.op = .fieldAddr 81 x k) (hx : a.eval x = .pointer (some ⟨g, 0, none⟩)) : (execOp a.eval o).run Try.prog w = .ok (.value (.pointer (some ⟨g, k, none⟩))) w := by
  generalize a.eval = ev at hx
  obtain rfl | rfl : k = 0 ∨ k = 1 := by omega
  all_goals
    unfold execOp
    simp only [ho, hx]
    go_simp
theorem y_int {x : Operand} {p : Addr} {n : Int} (ho : o.op = .load 3 x) (hx : a.eval x = .pointer (some p)) (hc : w.cell? p = some (.int .i64 n)) : (execOp a.eval o).run Try.prog w = .ok (.value (.int .i64 n)) w := by
  generalize a.eval = ev at hx
  unfold execOp
  simp only [ho, hx]
  go_simp
end
end Go.Proofs.Ytknbehjhaaidoaa.IX

/- kept.tells: an iterator tells just what it is to tell, twice over, and left early. -/
namespace Go.Proofs.Ytknbehjhaaidoaa.IX
open Go.RowKit Go.Shelf Mem HD TB
set_option linter.unusedVariables false
set_option linter.unusedSimpArgs false
attribute [local go_sem] Oper.semAt_some
/-- What is known between two steps of tells. -/
structure TT (w : World) (hL base h1 : Nat) (f v u : Value) (l : List (Key × Ent)) (B : Nat) (Ds : List Deferred) (W : World) : Prop where
  bl : Blk W hL 77 #[v]
  rw : KvRow W base v l
  ru : KvAt W u l
  uf : ∀ b, u.ownBlock = some b → b < h1
  vf : ∀ b, v.ownBlock = some b → b < h1
  bk : Blk W h1 81 #[f, u]
  br : Blk W (h1 + 1) 4 #[.bool false]
  mks : MK h1 B Ds W
  lo : Below w.heap.size w W
  sz : B ≤ W.heap.size
  hl : hL < h1
section
variable {w W W' : World} {hL base h1 B B' : Nat} {f v u : Value} {l : List (Key × Ent)} {Ds : List Deferred} {S : Nat → Prop}
theorem TT.mod (h : TT w hL base h1 f v u l B Ds W) (m : Mod S W W') (hs : ∀ k, k < B → ¬ S k) (hB : h1 + 2 ≤ B) (hw : w.heap.size ≤ h1) : TT w hL base h1 f v u l B Ds W' :=
  ⟨h.bl.mod m (hs _ (by have := h.hl; omega)), h.rw.mod m (fun b e => hs b (by have := h.vf b e; omega)), h.ru.mod m (fun b e => hs b (by have := h.uf b e; omega)), h.uf, h.vf, h.bk.mod m (hs _ (by omega)), h.br.mod m (hs _ (by omega)), h.mks.mod m (fun k hk _ => hs k hk), h.lo.trans (m.below h.lo.size (fun k _ c => by
    by_cases e : w.heap.size ≤ k
    · exact e
    · exact absurd c (hs k (by omega)))), Nat.le_trans h.sz m.size, h.hl⟩
theorem TT.up (h : TT w hL base h1 f v u l B Ds W) (hB : B ≤ B') (hs : B' ≤ W.heap.size) : TT w hL base h1 f v u l B' Ds W :=
  ⟨h.bl, h.rw, h.ru, h.uf, h.vf, h.bk, h.br, h.mks.mono hB, h.lo, hs, h.hl⟩
theorem tt_own {β : Type} (hB : h1 + 2 ≤ B) (hBB : B ≤ B') (hw : w.heap.size ≤ h1) : OwnFrom B' (fun (_ : β) W => TT w hL base h1 f v u l B Ds W) :=
  fun s W W' row hs hg hr => hs.mod (S := fun k => row = some k) (Mod.of_grown hg (fun k _ e => e)) (fun k hk e => by have := (hr k e).1; omega) hB hw
end
theorem tell_more {l pre : List (Key × Ent)} {x : Key × Ent} (hp : pre = l.take pre.length) (hx : l[pre.length]? = some x) : pre ++ [x] = l.take (pre ++ [x]).length := by
  rw [List.length_append, List.length_singleton, List.take_add_one, hx, ← hp]
  rfl
theorem tell_less {l pre : List (Key × Ent)} {x y : Key × Ent} (hx : l[pre.length]? = some y) (hne : x ≠ y) : ¬ (pre ++ [x]) <+: l := fun ⟨t, ht⟩ => by
  rw [← ht, List.append_assoc, List.getElem?_append_right (Nat.le_refl _), Nat.sub_self] at hx
  simp at hx
  exact hne hx
theorem run_equalIn_func_nil {P : Program} (w : World) (d : Nat) (t : TypeId) (ps rs : Array TypeId) (v : Bool) (f : Fn) (x y : Array Value) (h : P.underlying t = some (.func ps rs v)) :
    (Op.equalIn (d + 1) t (.func f x y) .nilFunc).run P w = .ok false w := by
  simp [Op.equalIn, run_underlying h]
theorem run_eql_func_nil {P : Program} (w : World) (t : TypeId) (ps rs : Array TypeId) (v : Bool) (f : Fn) (x y : Array Value) (h : P.underlying t = some (.func ps rs v)) :
    (binOp .eql t (.func f x y) .nilFunc).run P w = .ok (.bool false) w := by
  simp only [binOp]
  simp [Op.equal, Op.maxDepth, run_equalIn_func_nil w 9999 t ps rs v f x y h]
/-- The value that All answers. -/
def allF (hL : Nat) : Value := .func (.func 62) #[] #[.pointer (some ⟨hL, 0, none⟩)]
def T2 (w : World) (f u : Value) : World := (w.alloc (.cells #[f, u] 81)).alloc (.cells #[.bool false] 4)
set_option maxRecDepth 100000 in
set_option maxHeartbeats 4000000 in
theorem tells_any {w : World} {hL base : Nat} {v u : Value} {l : List (Key × Ent)} (hb : Blk w hL 77 #[v]) (hr : KvRow w base v l) (hu : KvAt w u l) (hub : ∀ b, u.ownBlock = some b → b < w.heap.size) (hl : l.length ≤ 2097152) :
    Calls Try.prog 31 #[.agg #[.func (.func 62) #[] #[.pointer (some ⟨hL, 0, none⟩)], u]] w fun e w' => e = .returned (.bool true) ∧ Mod no w w' := by
  refine (callsIn_wide (n := 6)).1 ?_
  have hm : Mod no w (T2 w (allF hL) u) := ((Mod.refl no w).alloc _).alloc _
  have HB := Lib.hid (show TT w hL base w.heap.size (allF hL) v u l (w.heap.size + 2) [] (T2 w (allF hL) u) from ⟨hb.mod hm (fun c => c), hr.mod hm (fun _ _ c => c), hu.mod hm (fun _ _ c => c), hub, fun b e => by obtain ⟨_, cur, hc⟩ := hr.own e; exact hc.lt, (Blk.new w 81 #[allF hL, u]).alloc _, Blk.new_at (w.alloc (.cells #[allF hL, u] 81)) 4 #[.bool false] (by simp), trivial, hm.below (Nat.le_refl _) (fun _ _ c => c.elim), by simp [T2], hb.lt⟩)
  have HL := Lib.hid hl
  obtain ⟨A, c, rfl, _⟩ := hu
  clear hb hr hub hl hm
  have hnf := fun (w' : World) (f : Fn) (x y : Array Value) => run_eql_func_nil (P := Try.prog) w' 74 _ _ _ f x y Try.underlying74
  refine callsIn_of_wp_marks Try.func31 rfl trivial ?_ rfl
  simp only [Try.ntmps31, List.size_toArray, List.length_cons, List.length_nil, Nat.reduceAdd, Nat.reduceSub, Array.replicate_succ, Array.replicate_zero, List.push_toArray, List.append_toArray, List.nil_append, List.cons_append]
  gi_wp2_with fail
  obtain ⟨w2, hw2⟩ : ∃ w2, w2 = T2 w (allF hL) (.slice A l.length c) := ⟨_, rfl⟩
  change Code.wpIn Fence.wide 6 Try.prog _ _ _ (T2 w (allF hL) (.slice A l.length c))
  rw [← hw2] at HB ⊢
  obtain ⟨h1, hh1⟩ : ∃ h1, h1 = w.heap.size := ⟨_, rfl⟩
  have HS := Lib.hid (show w.heap.size ≤ h1 ∧ w2.heap.size = h1 + 2 from by rw [hh1, hw2]; exact ⟨Nat.le_refl _, by simp [T2]⟩)
  clear hw2
  rw [← hh1] at HB ⊢
  have HB := Lib.hid (show TT w hL base h1 (allF hL) v (.slice A l.length c) l (h1 + 2) [] w2 from HB.out)
  clear hh1 hnf
  refine wpIn_loop (fun a W => ∃ (n : Nat) (Ds : List Deferred) (u4 u5 u6 u10 u11 u12 u13 u14 u15 u16 u17 u18 u19 u20 u21 u22 u23 u24 u25 u26 u27 u28 u29 u30 u31 u32 u33 u34 u35 u36 u37 u38 u39 u40 u41 u42 u43 u44 u45 u46 u47 u48 u49 u50 u51 : Value), n ≤ 2 ∧ TT w hL base h1 (allF hL) v (.slice A l.length c) l W.heap.size Ds W ∧ h1 + 2 ≤ W.heap.size ∧ a = { tmps := #[.agg #[.func (.func 62) #[] #[.pointer (some ⟨hL, 0, none⟩)], .slice A l.length c], .pointer (some ⟨h1, 0, none⟩), .pointer (some ⟨(h1 + 1), 0, none⟩), .int .i64 (n : Int), u4, u5, u6, .pointer (some ⟨h1, 0, none⟩), .func (.func 62) #[] #[.pointer (some ⟨hL, 0, none⟩)], .bool false, u10, u11, u12, u13, u14, u15, u16, u17, u18, u19, u20, u21, u22, u23, u24, u25, u26, u27, u28, u29, u30, u31, u32, u33, u34, u35, u36, u37, u38, u39, u40, u41, u42, u43, u44, u45, u46, u47, u48, u49, u50, u51, undef, undef], defers := Ds }) (fun a _ => 2 - (intOf (a.tmps.getD 3 undef)).toNat) ⟨0, [], undef, undef, undef, undef, undef, undef, undef, undef, undef, undef, undef, undef, undef, undef, undef, undef, undef, undef, undef, undef, undef, undef, undef, undef, undef, undef, undef, undef, undef, undef, undef, undef, undef, undef, undef, undef, undef, undef, undef, undef, undef, undef, undef, undef, undef, by omega, by rw [HS.out.2]; exact HB.out, by rw [HS.out.2]; exact Nat.le_refl _, rfl⟩ ?_
  clear HB
  rintro a W ⟨n, Ds, u4, u5, u6, u10, u11, u12, u13, u14, u15, u16, u17, u18, u19, u20, u21, u22, u23, u24, u25, u26, u27, u28, u29, u30, u31, u32, u33, u34, u35, u36, u37, u38, u39, u40, u41, u42, u43, u44, u45, u46, u47, u48, u49, u50, u51, hn, hNB, hsz, rfl⟩
  by_cases hlt : n < 2
  · have g1 : (n : Int) < 2 := by omega
    have m1 : Mod no W (W.alloc (.cells #[.int .i64 0] 3)) := (Mod.refl no W).alloc _
    have hN1 : TT w hL base h1 (allF hL) v (.slice A l.length c) l (W.heap.size + 1) Ds (W.alloc (.cells #[.int .i64 0] 3)) := (hNB.mod m1 (fun _ _ c => c) hsz HS.out.1).up (Nat.le_succ _) (by simp)
    have hbi := Blk.new W 3 #[.int .i64 0]
    have HN := Lib.hid (And.intro hN1 (And.intro hbi (And.intro hsz hlt)))
    have c0 : (W.alloc (.cells #[.int .i64 0] 3)).cell? ⟨h1, 0, none⟩ = some (.func (.func 62) #[] #[.pointer (some ⟨hL, 0, none⟩)]) := hN1.bk.cell 0
    clear hNB hsz hlt hn m1 hN1 hbi
    gi_wp2_with fail
    clear c0
    obtain ⟨hi, hhi⟩ : ∃ hi, hi = W.heap.size := ⟨_, rfl⟩
    obtain ⟨W1, hW1⟩ : ∃ W1, W1 = W.alloc (.cells #[.int .i64 0] 3) := ⟨_, rfl⟩
    have hs1 : W1.heap.size = hi + 1 := by rw [hW1, hhi]; simp
    have hN1 := HN.out.1
    have hbi := HN.out.2.1
    have hsz := HN.out.2.2.1
    rw [← hhi] at hN1 hbi hsz ⊢
    rw [← hW1] at hN1 hbi ⊢
    rw [← hs1] at hN1
    have HI := Lib.hid (And.intro HN.out.2.2.2 (And.intro hsz hs1))
    clear hW1 hhi HN
    have hlow : h1 + 2 ≤ W1.heap.size := by omega
    refine wpIn_rangeFunc_ownH (n := 6) rfl (by decide) (gf := 62) (lb := #[.pointer (some ⟨hL, 0, none⟩)]) rfl trivial (enters_of Try.func62 (by kernel_rfl) rfl)
      (all2_stops (n := 5) hN1.bl hN1.rw (by have := HL.out; omega) (by decide)) kpT_t (fun X l o o' _ hl hc _ => kpT_b X l o o' hl hc) (Below.refl _ _) (fun _ => rfl)
      (fun pre X => (TT w hL base h1 (allF hL) v (.slice A l.length c) l W1.heap.size Ds X ∧ Blk X hi 3 #[.int .i64 (pre.length : Int)]) ∧ pre = l.take pre.length)
      (fun cd pre _ => cd = .ret ∧ ¬ pre <+: l)
      (OwnFrom.and (OwnFrom.and (tt_own hlow (Nat.le_refl _) HS.out.1) (fun s W W' row hs hg hr => blk_own hi _ _ () W W' row hs hg (fun r e => (hr r e).2))) (ownFrom_pure _ _))
      (fun cd => ownFrom_pure _ _)
      ⟨⟨hN1, hbi⟩, rfl⟩
      (fun x a' X => ∃ Bk, W1.heap.size ≤ Bk ∧ Blk X Bk 39 x.1.L.toArray ∧ Blk X (Bk + 1) 56 x.2.L.toArray ∧ a' = { tmps := #[.agg #[.func (.func 62) #[] #[.pointer (some ⟨hL, 0, none⟩)], .slice A l.length c], .pointer (some ⟨h1, 0, none⟩), .pointer (some ⟨(h1 + 1), 0, none⟩), .int .i64 (n : Int), .pointer (some ⟨hi, 0, none⟩), .pointer (some ⟨Bk, 0, none⟩), .pointer (some ⟨(Bk + 1), 0, none⟩), .pointer (some ⟨h1, 0, none⟩), .func (.func 62) #[] #[.pointer (some ⟨hL, 0, none⟩)], .bool false, .int .i64 (n : Int), .bool true, u12, u13, .pointer (some ⟨h1, 0, none⟩), .func (.func 62) #[] #[.pointer (some ⟨hL, 0, none⟩)], .agg x.1.L.toArray, .agg x.2.L.toArray, u18, u19, u20, u21, u22, u23, u24, u25, u26, u27, u28, u29, u30, u31, u32, u33, u34, u35, u36, u37, u38, u39, u40, u41, u42, u43, u44, u45, u46, u47, u48, u49, u50, u51, undef, undef], defers := [] })
      (fun x a' _ X Y row hs hg hr => by obtain ⟨Bk, h1, h2, h3, h4⟩ := hs; exact ⟨Bk, h1, blk_own (β := Unit) Bk 39 _ () X Y row h2 hg (fun r e => (hr r e).2), blk_own (β := Unit) (Bk + 1) 56 _ () X Y row h3 hg (fun r e => (hr r e).2), h4⟩)
      ?assign ?body ?done ?stop
    case assign =>
      rintro loop pre x X K ⟨⟨hNB, hBi⟩, hpre⟩ hK
      have HA := Lib.hid (And.intro hNB (And.intro (And.intro hBi hpre) hK))
      have HK1 := Lib.hid (show World.there (X.alloc (.cells k0.L.toArray 39)) X.heap.size 0 x.1.L.toArray.size from blk_there (Blk.new X 39 k0.L.toArray) 0 _ (by rw [List.size_toArray, List.size_toArray, Key.len, Key.len]; decide))
      have HF1 := Lib.hid (show ∀ w2, w2 = World.setCells (X.alloc (.cells k0.L.toArray 39)) X.heap.size 0 x.1.L.toArray.toList → Mod no X w2 ∧ Blk w2 X.heap.size 39 x.1.L.toArray ∧ w2.heap.size = X.heap.size + 1 from fun w2 e => by
        subst e
        refine ⟨mod_setCells (fun c => absurd c (Nat.lt_irrefl _)) _ _ _ ((Mod.refl no X).alloc _), ?_, by rw [setCells_size]; simp⟩
        have h1 := blk_sets X.heap.size x.1.L 0 k0.L _ (Blk.new X 39 k0.L.toArray) (by rw [Key.len, Key.len]; decide)
        rw [show k0.L.take 0 ++ x.1.L ++ k0.L.drop (0 + x.1.L.length) = x.1.L from by rw [List.drop_of_length_le (by rw [Key.len, Key.len]; decide)]; simp] at h1
        exact h1)
      have HF2 := Lib.hid (show ∀ Y : World, World.there (Y.alloc (.cells e0.L.toArray 56)) Y.heap.size 0 x.2.L.toArray.size ∧ ∀ w2, w2 = World.setCells (Y.alloc (.cells e0.L.toArray 56)) Y.heap.size 0 x.2.L.toArray.toList → Mod no Y w2 ∧ Blk w2 Y.heap.size 56 x.2.L.toArray from fun Y => ⟨blk_there (Blk.new Y 56 e0.L.toArray) 0 _ (Nat.le_refl 4), fun w2 e => by
        subst e
        exact ⟨mod_setCells (fun c => absurd c (Nat.lt_irrefl _)) _ _ _ ((Mod.refl no Y).alloc _), blk_sets Y.heap.size x.2.L 0 e0.L _ (Blk.new Y 56 e0.L.toArray) (Nat.le_refl 4)⟩⟩)
      clear hNB hBi hpre hK hN1 hbi hsz hs1
      gi_wp2_with (first
        | (refine wpListIn_store_mid rfl 39 (.tmp 5) (.tmp 16) (by rfl) X.heap.size 0 x.1.L.toArray (by rfl) (by rfl) (by exact HK1.out) (by rw [List.size_toArray]; exact key_sizeG x.1.len) (all_oneCell_toArray (key_ones _)) ?_
           obtain ⟨w2, hw2⟩ : ∃ w2, w2 = World.setCells (X.alloc (.cells k0.L.toArray 39)) X.heap.size 0 x.1.L.toArray.toList := ⟨_, rfl⟩
           change wpListIn (Fence.wide.inRound loop) _ Try.prog _ _ _ _ (World.setCells (X.alloc (.cells k0.L.toArray 39)) X.heap.size 0 x.1.L.toArray.toList)
           rw [← hw2]
           have H2 := Lib.hid (HF1.out w2 hw2)
           clear hw2 HF1 HK1)
        | (refine wpListIn_store_mid rfl 56 (.tmp 6) (.tmp 17) (by rfl) w2.heap.size 0 x.2.L.toArray (by rfl) (by rfl) (by exact (HF2.out w2).1) (ent_sizeG _) (all_oneCell_toArray (ent_ones _)) ?_
           obtain ⟨w4, hw4⟩ : ∃ w4, w4 = World.setCells (w2.alloc (.cells e0.L.toArray 56)) w2.heap.size 0 x.2.L.toArray.toList := ⟨_, rfl⟩
           change wpListIn (Fence.wide.inRound loop) _ Try.prog _ _ _ _ (World.setCells (w2.alloc (.cells e0.L.toArray 56)) w2.heap.size 0 x.2.L.toArray.toList)
           rw [← hw4]
           have H4 := Lib.hid ((HF2.out w2).2 w4 hw4)
           clear hw4 HF2))
      have m4 : Mod no X w4 := H2.out.1.and_then H4.out.1
      refine HA.out.2.2 _ _ (from_mod m4 (fun _ _ c => c)) (kp_no m4) ⟨⟨HA.out.1.mod m4 (fun _ _ c => c) hlow HS.out.1, HA.out.2.1.1.mod m4 (fun c => c)⟩, HA.out.2.1.2⟩ ⟨X.heap.size, ?_, H2.out.2.1.mod H4.out.1 (fun c => c), ?_, ?_⟩
      · exact HA.out.1.sz
      · rw [← H2.out.2.2]; exact H4.out.2
      · rw [← H2.out.2.2]
    case body =>
      rintro loop pre x a' X hlo ⟨r, hr⟩ ⟨⟨hT, hBi⟩, hpre⟩ ⟨Bk, hBk, bK, bE, rfl⟩ hlt
      obtain ⟨y, hy⟩ : ∃ y, l[pre.length]? = some y := ⟨_, List.getElem?_eq_getElem hlt⟩
      obtain ⟨A', c', ea, hrd⟩ := hT.ru
      injection ea with ea1 _ ea3
      subst ea1 ea3
      obtain ⟨b, o, rfl, hry⟩ := hrd pre.length y hy
      have hpk := pair_key hry
      have dg : decide ((pre.length : Int) ≥ (l.length : Int)) = false := decide_eq_false (by omega)
      have hI := HI.out.2
      have md : Mod no X X.drew := (Mod.refl no X).drew
      have HK := Lib.hid (And.intro (blk_range bK) (And.intro (blk_range bE) (And.intro hpk.1 (And.intro hpk.2 hlt))))
      have HX := Lib.hid (And.intro hT (And.intro hBi (And.intro hpre hy)))
      have cI : X.drew.cell? ⟨hi, 0, none⟩ = some (.int .i64 (pre.length : Int)) := hBi.drew.cell 0
      have fI : X.drew.frozen? ⟨hi, 0, none⟩ = false := hBi.drew.free 0
      have cR : X.drew.cell? ⟨h1 + 1, 0, none⟩ = some (.bool false) := hT.br.drew.cell 0
      have fR : X.drew.frozen? ⟨h1 + 1, 0, none⟩ = false := hT.br.drew.free 0
      have w1' : wrap64 ((pre.length : Int) + 1) = (pre.length : Int) + 1 := IntWalk.wrap64_in _ (by have := HL.out; omega)
      have HRET := Lib.hid (show x ≠ y → KeepsFrom W1.heap.size X (X.drew.setCell ⟨h1 + 1, 0, none⟩ (.bool false)) ∧ (Code.ret = Code.ret ∧ ¬ (pre ++ [x]) <+: l) from fun hne => by
        have mr : Mod (one (h1 + 1)) X (X.drew.setCell ⟨h1 + 1, 0, none⟩ (.bool false)) := Mod.set (S := one (h1 + 1)) (p := ⟨h1 + 1, 0, none⟩) (md.mono (fun _ _ c => c.elim)) (fun _ => rfl) _
        exact ⟨from_mod mr (fun k hk e => by have e : k = h1 + 1 := e; omega), rfl, tell_less hy hne⟩)
      have HGO := Lib.hid (show x = y → KeepsFrom W1.heap.size X (X.drew.setCell ⟨hi, 0, none⟩ (.int .i64 ((pre.length : Int) + 1))) ∧ KpT (fun k => v.ownBlock = some k) X (X.drew.setCell ⟨hi, 0, none⟩ (.int .i64 ((pre.length : Int) + 1))) ∧ ((TT w hL base h1 (allF hL) v (.slice (some ⟨b, o, none⟩) l.length c) l W1.heap.size Ds (X.drew.setCell ⟨hi, 0, none⟩ (.int .i64 ((pre.length : Int) + 1))) ∧ Blk (X.drew.setCell ⟨hi, 0, none⟩ (.int .i64 ((pre.length : Int) + 1))) hi 3 #[.int .i64 ((pre ++ [x]).length : Int)]) ∧ pre ++ [x] = l.take (pre ++ [x]).length) from fun he => by
        have mr : Mod (one hi) X (X.drew.setCell ⟨hi, 0, none⟩ (.int .i64 ((pre.length : Int) + 1))) := Mod.set (S := one hi) (p := ⟨hi, 0, none⟩) (md.mono (fun _ _ c => c.elim)) (fun _ => rfl) _
        refine ⟨from_mod mr (fun k hk e => by have e : k = hi := e; omega), fun k t cs hk hBk' => hBk'.mod mr (fun e => ?_), ⟨⟨?_, ?_, ?_, ?_, ?_, ?_, ?_, ?_, ?_, ?_, ?_⟩, ?_⟩, ?_⟩
        · have e : k = hi := e
          subst e
          rcases hk with hk | hk
          · have := hT.vf k hk; omega
          · subst hk; exact absurd (Blk.same hBi hBk').1 (by decide)
        · exact hT.bl.mod mr (fun e => by have e : hL = hi := e; have := hT.hl; omega)
        · exact hT.rw.mod mr (fun k e e2 => by have e2 : k = hi := e2; have := hT.vf k e; omega)
        · exact hT.ru.mod mr (fun k e e2 => by have e2 : k = hi := e2; have := hT.uf k e; omega)
        · exact hT.uf
        · exact hT.vf
        · exact hT.bk.mod mr (fun e => by have e : h1 = hi := e; omega)
        · exact hT.br.mod mr (fun e => by have e : h1 + 1 = hi := e; omega)
        · exact hT.mks.mod mr (fun k hk hko e => by
            have e : k = hi := e
            subst e
            rw [show X.heap[k]? = _ from hBi] at hko; cases hko)
        · exact hT.lo.trans (mr.below hT.lo.size (fun k _ e => by have e : k = hi := e; have := HS.out.1; omega))
        · exact Nat.le_trans hT.sz mr.size
        · exact hT.hl
        · have := hBi.drew.put 0 (.int .i64 ((pre.length : Int) + 1))
          rw [List.length_append]
          exact this
        · exact tell_more hpre (by rw [he]; exact hy))
      clear hlow hsz hs1 hN1 hbi hT hBi hpre hy bK bE hlo hr hlt hry hpk hrd md hBk hI
      by_cases e1 : x.1 = y.1
      · have d1 : decide (x.1 = y.1) = true := decide_eq_true e1
        by_cases e2 : x.2 = y.2
        · have d2 : decide (x.2 = y.2) = true := decide_eq_true e2
          gi_wp2_with fail
          refine region_in (S := fun w9 => w9 = X.drew) (by kernel_rfl) (by kernel_rfl) (fun ⟨a, w, h⟩ => h) rfl (fun hHeld => ?_)
          refine takeD (i := 0) (d := some 18) (v := (.int .i64 (pre.length : Int))) rfl (by kernel_rfl) (by kernel_rfl) (by kernel_rfl) rfl (fun _ _ _ h => h) (Or.inl ⟨by kernel_rfl, fun w9 hw => by rw [hw]; exact y_int rfl rfl cI⟩) hHeld ?_
          simp only [Act.put, List.setIfInBounds_toArray, List.set_cons_zero, List.set_cons_succ]
          refine takeD (i := 1) (d := some 19) (v := (.pointer (some ⟨h1, 1, none⟩))) rfl (by kernel_rfl) (by kernel_rfl) (by kernel_rfl) rfl (fun _ _ _ h => h) (Or.inl ⟨by kernel_rfl, fun w9 hw => y_fkt (by decide) rfl rfl⟩) hHeld ?_
          simp only [Act.put, List.setIfInBounds_toArray, List.set_cons_zero, List.set_cons_succ]
          refine takeD (i := 2) (d := some 20) (v := (.slice (some ⟨b, o, none⟩) l.length c)) rfl (by kernel_rfl) (by kernel_rfl) (by kernel_rfl) rfl (fun _ _ _ h => h) (Or.inl ⟨by kernel_rfl, fun w9 hw => by rw [hw]; exact y_ldkv rfl rfl (HX.out.1.bk.drew.cell 1)⟩) hHeld ?_
          simp only [Act.put, List.setIfInBounds_toArray, List.set_cons_zero, List.set_cons_succ]
          refine takeD (i := 3) (d := some 21) (v := (.int .i64 (l.length : Int))) rfl (by kernel_rfl) (by kernel_rfl) (by kernel_rfl) rfl (fun _ _ _ h => h) (Or.inl ⟨by kernel_rfl, fun w9 hw => y_lenkv' rfl rfl⟩) hHeld ?_
          simp only [Act.put, List.setIfInBounds_toArray, List.set_cons_zero, List.set_cons_succ]
          refine takeD (i := 4) (d := some 22) (v := (.bool false)) rfl (by kernel_rfl) (by kernel_rfl) (by kernel_rfl) rfl (fun _ _ _ h => h) (Or.inl ⟨by kernel_rfl, fun w9 hw => y_geqi dg rfl rfl rfl⟩) hHeld ?_
          simp only [Act.put, List.setIfInBounds_toArray, List.set_cons_zero, List.set_cons_succ]
          refine takeD (i := 5) (d := some 23) (v := (.bool false)) rfl (by kernel_rfl) (by kernel_rfl) (by kernel_rfl) rfl (fun _ _ _ h => h) (Or.inl ⟨by kernel_rfl, fun w9 hw => y_move rfl rfl⟩) hHeld ?_
          simp only [Act.put, List.setIfInBounds_toArray, List.set_cons_zero, List.set_cons_succ]
          refine takeD (i := 6) (d := some 24) (v := (.agg x.1.L.toArray)) rfl (by kernel_rfl) (by kernel_rfl) (by kernel_rfl) rfl (fun _ _ _ h => h) (Or.inl ⟨by kernel_rfl, fun w9 hw => by rw [hw]; exact y_key rfl rfl HK.out.1⟩) hHeld ?_
          simp only [Act.put, List.setIfInBounds_toArray, List.set_cons_zero, List.set_cons_succ]
          refine takeD (i := 7) (d := some 25) (v := (.pointer (some ⟨h1, 1, none⟩))) rfl (by kernel_rfl) (by kernel_rfl) (by kernel_rfl) rfl (fun _ _ _ h => h) (Or.inl ⟨by kernel_rfl, fun w9 hw => y_fkt (by decide) rfl rfl⟩) hHeld ?_
          simp only [Act.put, List.setIfInBounds_toArray, List.set_cons_zero, List.set_cons_succ]
          refine takeD (i := 8) (d := some 26) (v := (.slice (some ⟨b, o, none⟩) l.length c)) rfl (by kernel_rfl) (by kernel_rfl) (by kernel_rfl) rfl (fun _ _ _ h => h) (Or.inl ⟨by kernel_rfl, fun w9 hw => by rw [hw]; exact y_ldkv rfl rfl (HX.out.1.bk.drew.cell 1)⟩) hHeld ?_
          simp only [Act.put, List.setIfInBounds_toArray, List.set_cons_zero, List.set_cons_succ]
          refine takeD (i := 9) (d := some 27) (v := (.int .i64 (pre.length : Int))) rfl (by kernel_rfl) (by kernel_rfl) (by kernel_rfl) rfl (fun _ _ _ h => h) (Or.inl ⟨by kernel_rfl, fun w9 hw => by rw [hw]; exact y_int rfl rfl cI⟩) hHeld ?_
          simp only [Act.put, List.setIfInBounds_toArray, List.set_cons_zero, List.set_cons_succ]
          refine takeD (i := 10) (d := some 28) (v := (.pointer (some ⟨b, o + pre.length * 36, none⟩))) rfl (by kernel_rfl) (by kernel_rfl) (by kernel_rfl) rfl (fun _ _ _ h => h) (Or.inl ⟨by kernel_rfl, fun w9 hw => y_ixkv rfl rfl rfl HK.out.2.2.2.2⟩) hHeld ?_
          simp only [Act.put, List.setIfInBounds_toArray, List.set_cons_zero, List.set_cons_succ]
          refine takeD (i := 11) (d := some 29) (v := (.pointer (some ⟨b, o + pre.length * 36, none⟩))) rfl (by kernel_rfl) (by kernel_rfl) (by kernel_rfl) rfl (fun _ _ _ h => h) (Or.inl ⟨by kernel_rfl, fun w9 hw => y_fk0' rfl rfl⟩) hHeld ?_
          simp only [Act.put, List.setIfInBounds_toArray, List.set_cons_zero, List.set_cons_succ]
          refine takeD (i := 12) (d := some 30) (v := (.agg y.1.L.toArray)) rfl (by kernel_rfl) (by kernel_rfl) (by kernel_rfl) rfl (fun _ _ _ h => h) (Or.inl ⟨by kernel_rfl, fun w9 hw => by rw [hw]; exact y_key rfl rfl HK.out.2.2.1⟩) hHeld ?_
          simp only [Act.put, List.setIfInBounds_toArray, List.set_cons_zero, List.set_cons_succ]
          refine takeD (i := 13) (d := some 31) (v := (.bool false)) rfl (by kernel_rfl) (by kernel_rfl) (by kernel_rfl) rfl (fun _ _ _ h => h) (Or.inl ⟨by kernel_rfl, fun w9 hw => y_neqKd (d := true) d1 rfl rfl rfl⟩) hHeld ?_
          simp only [Act.put, List.setIfInBounds_toArray, List.set_cons_zero, List.set_cons_succ]
          refine takeD (i := 14) (d := some 32) (v := (.bool false)) rfl (by kernel_rfl) (by kernel_rfl) (by kernel_rfl) rfl (fun _ _ _ h => h) (Or.inl ⟨by kernel_rfl, fun w9 hw => y_pick (b := false) rfl rfl rfl⟩) hHeld ?_
          simp only [Act.put, List.setIfInBounds_toArray, List.set_cons_zero, List.set_cons_succ]
          refine takeD (i := 15) (d := some 33) (v := (.bool false)) rfl (by kernel_rfl) (by kernel_rfl) (by kernel_rfl) rfl (fun _ _ _ h => h) (Or.inl ⟨by kernel_rfl, fun w9 hw => y_move rfl rfl⟩) hHeld ?_
          simp only [Act.put, List.setIfInBounds_toArray, List.set_cons_zero, List.set_cons_succ]
          refine takeD (i := 16) (d := some 34) (v := (.agg x.2.L.toArray)) rfl (by kernel_rfl) (by kernel_rfl) (by kernel_rfl) rfl (fun _ _ _ h => h) (Or.inl ⟨by kernel_rfl, fun w9 hw => by rw [hw]; exact y_ent rfl rfl HK.out.2.1⟩) hHeld ?_
          simp only [Act.put, List.setIfInBounds_toArray, List.set_cons_zero, List.set_cons_succ]
          refine takeD (i := 17) (d := some 35) (v := (.pointer (some ⟨h1, 1, none⟩))) rfl (by kernel_rfl) (by kernel_rfl) (by kernel_rfl) rfl (fun _ _ _ h => h) (Or.inl ⟨by kernel_rfl, fun w9 hw => y_fkt (by decide) rfl rfl⟩) hHeld ?_
          simp only [Act.put, List.setIfInBounds_toArray, List.set_cons_zero, List.set_cons_succ]
          refine takeD (i := 18) (d := some 36) (v := (.slice (some ⟨b, o, none⟩) l.length c)) rfl (by kernel_rfl) (by kernel_rfl) (by kernel_rfl) rfl (fun _ _ _ h => h) (Or.inl ⟨by kernel_rfl, fun w9 hw => by rw [hw]; exact y_ldkv rfl rfl (HX.out.1.bk.drew.cell 1)⟩) hHeld ?_
          simp only [Act.put, List.setIfInBounds_toArray, List.set_cons_zero, List.set_cons_succ]
          refine takeD (i := 19) (d := some 37) (v := (.int .i64 (pre.length : Int))) rfl (by kernel_rfl) (by kernel_rfl) (by kernel_rfl) rfl (fun _ _ _ h => h) (Or.inl ⟨by kernel_rfl, fun w9 hw => by rw [hw]; exact y_int rfl rfl cI⟩) hHeld ?_
          simp only [Act.put, List.setIfInBounds_toArray, List.set_cons_zero, List.set_cons_succ]
          refine takeD (i := 20) (d := some 38) (v := (.pointer (some ⟨b, o + pre.length * 36, none⟩))) rfl (by kernel_rfl) (by kernel_rfl) (by kernel_rfl) rfl (fun _ _ _ h => h) (Or.inl ⟨by kernel_rfl, fun w9 hw => y_ixkv rfl rfl rfl HK.out.2.2.2.2⟩) hHeld ?_
          simp only [Act.put, List.setIfInBounds_toArray, List.set_cons_zero, List.set_cons_succ]
          refine takeD (i := 21) (d := some 39) (v := (.pointer (some ⟨b, o + pre.length * 36 + 32, none⟩))) rfl (by kernel_rfl) (by kernel_rfl) (by kernel_rfl) rfl (fun _ _ _ h => h) (Or.inl ⟨by kernel_rfl, fun w9 hw => y_fk1' rfl rfl⟩) hHeld ?_
          simp only [Act.put, List.setIfInBounds_toArray, List.set_cons_zero, List.set_cons_succ]
          refine takeD (i := 22) (d := some 40) (v := (.agg y.2.L.toArray)) rfl (by kernel_rfl) (by kernel_rfl) (by kernel_rfl) rfl (fun _ _ _ h => h) (Or.inl ⟨by kernel_rfl, fun w9 hw => by rw [hw]; exact y_ent rfl rfl HK.out.2.2.2.1⟩) hHeld ?_
          simp only [Act.put, List.setIfInBounds_toArray, List.set_cons_zero, List.set_cons_succ]
          refine takeD (i := 23) (d := some 41) (v := (.bool false)) rfl (by kernel_rfl) (by kernel_rfl) (by kernel_rfl) rfl (fun _ _ _ h => h) (Or.inl ⟨by kernel_rfl, fun w9 hw => y_neqE (d := true) d2 rfl rfl rfl⟩) hHeld ?_
          simp only [Act.put, List.setIfInBounds_toArray, List.set_cons_zero, List.set_cons_succ]
          refine takeD (i := 24) (d := some 42) (v := (.bool false)) rfl (by kernel_rfl) (by kernel_rfl) (by kernel_rfl) rfl (fun _ _ _ h => h) (Or.inl ⟨by kernel_rfl, fun w9 hw => y_pick (b := false) rfl rfl rfl⟩) hHeld ?_
          simp only [Act.put, List.setIfInBounds_toArray, List.set_cons_zero, List.set_cons_succ]
          refine wpAnyH_done (by kernel_rfl) ?_ _
          gi_wp2_with fail
          exact HGO.out (Prod.ext e1 e2)
        · have d2 : decide (x.2 = y.2) = false := decide_eq_false e2
          gi_wp2_with fail
          refine region_in (S := fun w9 => w9 = X.drew) (by kernel_rfl) (by kernel_rfl) (fun ⟨a, w, h⟩ => h) rfl (fun hHeld => ?_)
          refine takeD (i := 0) (d := some 18) (v := (.int .i64 (pre.length : Int))) rfl (by kernel_rfl) (by kernel_rfl) (by kernel_rfl) rfl (fun _ _ _ h => h) (Or.inl ⟨by kernel_rfl, fun w9 hw => by rw [hw]; exact y_int rfl rfl cI⟩) hHeld ?_
          simp only [Act.put, List.setIfInBounds_toArray, List.set_cons_zero, List.set_cons_succ]
          refine takeD (i := 1) (d := some 19) (v := (.pointer (some ⟨h1, 1, none⟩))) rfl (by kernel_rfl) (by kernel_rfl) (by kernel_rfl) rfl (fun _ _ _ h => h) (Or.inl ⟨by kernel_rfl, fun w9 hw => y_fkt (by decide) rfl rfl⟩) hHeld ?_
          simp only [Act.put, List.setIfInBounds_toArray, List.set_cons_zero, List.set_cons_succ]
          refine takeD (i := 2) (d := some 20) (v := (.slice (some ⟨b, o, none⟩) l.length c)) rfl (by kernel_rfl) (by kernel_rfl) (by kernel_rfl) rfl (fun _ _ _ h => h) (Or.inl ⟨by kernel_rfl, fun w9 hw => by rw [hw]; exact y_ldkv rfl rfl (HX.out.1.bk.drew.cell 1)⟩) hHeld ?_
          simp only [Act.put, List.setIfInBounds_toArray, List.set_cons_zero, List.set_cons_succ]
          refine takeD (i := 3) (d := some 21) (v := (.int .i64 (l.length : Int))) rfl (by kernel_rfl) (by kernel_rfl) (by kernel_rfl) rfl (fun _ _ _ h => h) (Or.inl ⟨by kernel_rfl, fun w9 hw => y_lenkv' rfl rfl⟩) hHeld ?_
          simp only [Act.put, List.setIfInBounds_toArray, List.set_cons_zero, List.set_cons_succ]
          refine takeD (i := 4) (d := some 22) (v := (.bool false)) rfl (by kernel_rfl) (by kernel_rfl) (by kernel_rfl) rfl (fun _ _ _ h => h) (Or.inl ⟨by kernel_rfl, fun w9 hw => y_geqi dg rfl rfl rfl⟩) hHeld ?_
          simp only [Act.put, List.setIfInBounds_toArray, List.set_cons_zero, List.set_cons_succ]
          refine takeD (i := 5) (d := some 23) (v := (.bool false)) rfl (by kernel_rfl) (by kernel_rfl) (by kernel_rfl) rfl (fun _ _ _ h => h) (Or.inl ⟨by kernel_rfl, fun w9 hw => y_move rfl rfl⟩) hHeld ?_
          simp only [Act.put, List.setIfInBounds_toArray, List.set_cons_zero, List.set_cons_succ]
          refine takeD (i := 6) (d := some 24) (v := (.agg x.1.L.toArray)) rfl (by kernel_rfl) (by kernel_rfl) (by kernel_rfl) rfl (fun _ _ _ h => h) (Or.inl ⟨by kernel_rfl, fun w9 hw => by rw [hw]; exact y_key rfl rfl HK.out.1⟩) hHeld ?_
          simp only [Act.put, List.setIfInBounds_toArray, List.set_cons_zero, List.set_cons_succ]
          refine takeD (i := 7) (d := some 25) (v := (.pointer (some ⟨h1, 1, none⟩))) rfl (by kernel_rfl) (by kernel_rfl) (by kernel_rfl) rfl (fun _ _ _ h => h) (Or.inl ⟨by kernel_rfl, fun w9 hw => y_fkt (by decide) rfl rfl⟩) hHeld ?_
          simp only [Act.put, List.setIfInBounds_toArray, List.set_cons_zero, List.set_cons_succ]
          refine takeD (i := 8) (d := some 26) (v := (.slice (some ⟨b, o, none⟩) l.length c)) rfl (by kernel_rfl) (by kernel_rfl) (by kernel_rfl) rfl (fun _ _ _ h => h) (Or.inl ⟨by kernel_rfl, fun w9 hw => by rw [hw]; exact y_ldkv rfl rfl (HX.out.1.bk.drew.cell 1)⟩) hHeld ?_
          simp only [Act.put, List.setIfInBounds_toArray, List.set_cons_zero, List.set_cons_succ]
          refine takeD (i := 9) (d := some 27) (v := (.int .i64 (pre.length : Int))) rfl (by kernel_rfl) (by kernel_rfl) (by kernel_rfl) rfl (fun _ _ _ h => h) (Or.inl ⟨by kernel_rfl, fun w9 hw => by rw [hw]; exact y_int rfl rfl cI⟩) hHeld ?_
          simp only [Act.put, List.setIfInBounds_toArray, List.set_cons_zero, List.set_cons_succ]
          refine takeD (i := 10) (d := some 28) (v := (.pointer (some ⟨b, o + pre.length * 36, none⟩))) rfl (by kernel_rfl) (by kernel_rfl) (by kernel_rfl) rfl (fun _ _ _ h => h) (Or.inl ⟨by kernel_rfl, fun w9 hw => y_ixkv rfl rfl rfl HK.out.2.2.2.2⟩) hHeld ?_
          simp only [Act.put, List.setIfInBounds_toArray, List.set_cons_zero, List.set_cons_succ]
          refine takeD (i := 11) (d := some 29) (v := (.pointer (some ⟨b, o + pre.length * 36, none⟩))) rfl (by kernel_rfl) (by kernel_rfl) (by kernel_rfl) rfl (fun _ _ _ h => h) (Or.inl ⟨by kernel_rfl, fun w9 hw => y_fk0' rfl rfl⟩) hHeld ?_
          simp only [Act.put, List.setIfInBounds_toArray, List.set_cons_zero, List.set_cons_succ]
          refine takeD (i := 12) (d := some 30) (v := (.agg y.1.L.toArray)) rfl (by kernel_rfl) (by kernel_rfl) (by kernel_rfl) rfl (fun _ _ _ h => h) (Or.inl ⟨by kernel_rfl, fun w9 hw => by rw [hw]; exact y_key rfl rfl HK.out.2.2.1⟩) hHeld ?_
          simp only [Act.put, List.setIfInBounds_toArray, List.set_cons_zero, List.set_cons_succ]
          refine takeD (i := 13) (d := some 31) (v := (.bool false)) rfl (by kernel_rfl) (by kernel_rfl) (by kernel_rfl) rfl (fun _ _ _ h => h) (Or.inl ⟨by kernel_rfl, fun w9 hw => y_neqKd (d := true) d1 rfl rfl rfl⟩) hHeld ?_
          simp only [Act.put, List.setIfInBounds_toArray, List.set_cons_zero, List.set_cons_succ]
          refine takeD (i := 14) (d := some 32) (v := (.bool false)) rfl (by kernel_rfl) (by kernel_rfl) (by kernel_rfl) rfl (fun _ _ _ h => h) (Or.inl ⟨by kernel_rfl, fun w9 hw => y_pick (b := false) rfl rfl rfl⟩) hHeld ?_
          simp only [Act.put, List.setIfInBounds_toArray, List.set_cons_zero, List.set_cons_succ]
          refine takeD (i := 15) (d := some 33) (v := (.bool false)) rfl (by kernel_rfl) (by kernel_rfl) (by kernel_rfl) rfl (fun _ _ _ h => h) (Or.inl ⟨by kernel_rfl, fun w9 hw => y_move rfl rfl⟩) hHeld ?_
          simp only [Act.put, List.setIfInBounds_toArray, List.set_cons_zero, List.set_cons_succ]
          refine takeD (i := 16) (d := some 34) (v := (.agg x.2.L.toArray)) rfl (by kernel_rfl) (by kernel_rfl) (by kernel_rfl) rfl (fun _ _ _ h => h) (Or.inl ⟨by kernel_rfl, fun w9 hw => by rw [hw]; exact y_ent rfl rfl HK.out.2.1⟩) hHeld ?_
          simp only [Act.put, List.setIfInBounds_toArray, List.set_cons_zero, List.set_cons_succ]
          refine takeD (i := 17) (d := some 35) (v := (.pointer (some ⟨h1, 1, none⟩))) rfl (by kernel_rfl) (by kernel_rfl) (by kernel_rfl) rfl (fun _ _ _ h => h) (Or.inl ⟨by kernel_rfl, fun w9 hw => y_fkt (by decide) rfl rfl⟩) hHeld ?_
          simp only [Act.put, List.setIfInBounds_toArray, List.set_cons_zero, List.set_cons_succ]
          refine takeD (i := 18) (d := some 36) (v := (.slice (some ⟨b, o, none⟩) l.length c)) rfl (by kernel_rfl) (by kernel_rfl) (by kernel_rfl) rfl (fun _ _ _ h => h) (Or.inl ⟨by kernel_rfl, fun w9 hw => by rw [hw]; exact y_ldkv rfl rfl (HX.out.1.bk.drew.cell 1)⟩) hHeld ?_
          simp only [Act.put, List.setIfInBounds_toArray, List.set_cons_zero, List.set_cons_succ]
          refine takeD (i := 19) (d := some 37) (v := (.int .i64 (pre.length : Int))) rfl (by kernel_rfl) (by kernel_rfl) (by kernel_rfl) rfl (fun _ _ _ h => h) (Or.inl ⟨by kernel_rfl, fun w9 hw => by rw [hw]; exact y_int rfl rfl cI⟩) hHeld ?_
          simp only [Act.put, List.setIfInBounds_toArray, List.set_cons_zero, List.set_cons_succ]
          refine takeD (i := 20) (d := some 38) (v := (.pointer (some ⟨b, o + pre.length * 36, none⟩))) rfl (by kernel_rfl) (by kernel_rfl) (by kernel_rfl) rfl (fun _ _ _ h => h) (Or.inl ⟨by kernel_rfl, fun w9 hw => y_ixkv rfl rfl rfl HK.out.2.2.2.2⟩) hHeld ?_
          simp only [Act.put, List.setIfInBounds_toArray, List.set_cons_zero, List.set_cons_succ]
          refine takeD (i := 21) (d := some 39) (v := (.pointer (some ⟨b, o + pre.length * 36 + 32, none⟩))) rfl (by kernel_rfl) (by kernel_rfl) (by kernel_rfl) rfl (fun _ _ _ h => h) (Or.inl ⟨by kernel_rfl, fun w9 hw => y_fk1' rfl rfl⟩) hHeld ?_
          simp only [Act.put, List.setIfInBounds_toArray, List.set_cons_zero, List.set_cons_succ]
          refine takeD (i := 22) (d := some 40) (v := (.agg y.2.L.toArray)) rfl (by kernel_rfl) (by kernel_rfl) (by kernel_rfl) rfl (fun _ _ _ h => h) (Or.inl ⟨by kernel_rfl, fun w9 hw => by rw [hw]; exact y_ent rfl rfl HK.out.2.2.2.1⟩) hHeld ?_
          simp only [Act.put, List.setIfInBounds_toArray, List.set_cons_zero, List.set_cons_succ]
          refine takeD (i := 23) (d := some 41) (v := (.bool true)) rfl (by kernel_rfl) (by kernel_rfl) (by kernel_rfl) rfl (fun _ _ _ h => h) (Or.inl ⟨by kernel_rfl, fun w9 hw => y_neqE (d := false) d2 rfl rfl rfl⟩) hHeld ?_
          simp only [Act.put, List.setIfInBounds_toArray, List.set_cons_zero, List.set_cons_succ]
          refine takeD (i := 24) (d := some 42) (v := (.bool true)) rfl (by kernel_rfl) (by kernel_rfl) (by kernel_rfl) rfl (fun _ _ _ h => h) (Or.inl ⟨by kernel_rfl, fun w9 hw => y_pick (b := false) rfl rfl rfl⟩) hHeld ?_
          simp only [Act.put, List.setIfInBounds_toArray, List.set_cons_zero, List.set_cons_succ]
          refine wpAnyH_done (by kernel_rfl) ?_ _
          gi_wp2_with fail
          have hret := HRET.out (fun e => e2 (by rw [e]))
          exact ⟨hret.1, rfl, hret.2.2⟩
      · have d1 : decide (x.1 = y.1) = false := decide_eq_false e1
        gi_wp2_with fail
        refine region_in (S := fun w9 => w9 = X.drew) (by kernel_rfl) (by kernel_rfl) (fun ⟨a, w, h⟩ => h) rfl (fun hHeld => ?_)
        refine takeD (i := 0) (d := some 18) (v := (.int .i64 (pre.length : Int))) rfl (by kernel_rfl) (by kernel_rfl) (by kernel_rfl) rfl (fun _ _ _ h => h) (Or.inl ⟨by kernel_rfl, fun w9 hw => by rw [hw]; exact y_int rfl rfl cI⟩) hHeld ?_
        simp only [Act.put, List.setIfInBounds_toArray, List.set_cons_zero, List.set_cons_succ]
        refine takeD (i := 1) (d := some 19) (v := (.pointer (some ⟨h1, 1, none⟩))) rfl (by kernel_rfl) (by kernel_rfl) (by kernel_rfl) rfl (fun _ _ _ h => h) (Or.inl ⟨by kernel_rfl, fun w9 hw => y_fkt (by decide) rfl rfl⟩) hHeld ?_
        simp only [Act.put, List.setIfInBounds_toArray, List.set_cons_zero, List.set_cons_succ]
        refine takeD (i := 2) (d := some 20) (v := (.slice (some ⟨b, o, none⟩) l.length c)) rfl (by kernel_rfl) (by kernel_rfl) (by kernel_rfl) rfl (fun _ _ _ h => h) (Or.inl ⟨by kernel_rfl, fun w9 hw => by rw [hw]; exact y_ldkv rfl rfl (HX.out.1.bk.drew.cell 1)⟩) hHeld ?_
        simp only [Act.put, List.setIfInBounds_toArray, List.set_cons_zero, List.set_cons_succ]
        refine takeD (i := 3) (d := some 21) (v := (.int .i64 (l.length : Int))) rfl (by kernel_rfl) (by kernel_rfl) (by kernel_rfl) rfl (fun _ _ _ h => h) (Or.inl ⟨by kernel_rfl, fun w9 hw => y_lenkv' rfl rfl⟩) hHeld ?_
        simp only [Act.put, List.setIfInBounds_toArray, List.set_cons_zero, List.set_cons_succ]
        refine takeD (i := 4) (d := some 22) (v := (.bool false)) rfl (by kernel_rfl) (by kernel_rfl) (by kernel_rfl) rfl (fun _ _ _ h => h) (Or.inl ⟨by kernel_rfl, fun w9 hw => y_geqi dg rfl rfl rfl⟩) hHeld ?_
        simp only [Act.put, List.setIfInBounds_toArray, List.set_cons_zero, List.set_cons_succ]
        refine takeD (i := 5) (d := some 23) (v := (.bool false)) rfl (by kernel_rfl) (by kernel_rfl) (by kernel_rfl) rfl (fun _ _ _ h => h) (Or.inl ⟨by kernel_rfl, fun w9 hw => y_move rfl rfl⟩) hHeld ?_
        simp only [Act.put, List.setIfInBounds_toArray, List.set_cons_zero, List.set_cons_succ]
        refine takeD (i := 6) (d := some 24) (v := (.agg x.1.L.toArray)) rfl (by kernel_rfl) (by kernel_rfl) (by kernel_rfl) rfl (fun _ _ _ h => h) (Or.inl ⟨by kernel_rfl, fun w9 hw => by rw [hw]; exact y_key rfl rfl HK.out.1⟩) hHeld ?_
        simp only [Act.put, List.setIfInBounds_toArray, List.set_cons_zero, List.set_cons_succ]
        refine takeD (i := 7) (d := some 25) (v := (.pointer (some ⟨h1, 1, none⟩))) rfl (by kernel_rfl) (by kernel_rfl) (by kernel_rfl) rfl (fun _ _ _ h => h) (Or.inl ⟨by kernel_rfl, fun w9 hw => y_fkt (by decide) rfl rfl⟩) hHeld ?_
        simp only [Act.put, List.setIfInBounds_toArray, List.set_cons_zero, List.set_cons_succ]
        refine takeD (i := 8) (d := some 26) (v := (.slice (some ⟨b, o, none⟩) l.length c)) rfl (by kernel_rfl) (by kernel_rfl) (by kernel_rfl) rfl (fun _ _ _ h => h) (Or.inl ⟨by kernel_rfl, fun w9 hw => by rw [hw]; exact y_ldkv rfl rfl (HX.out.1.bk.drew.cell 1)⟩) hHeld ?_
        simp only [Act.put, List.setIfInBounds_toArray, List.set_cons_zero, List.set_cons_succ]
        refine takeD (i := 9) (d := some 27) (v := (.int .i64 (pre.length : Int))) rfl (by kernel_rfl) (by kernel_rfl) (by kernel_rfl) rfl (fun _ _ _ h => h) (Or.inl ⟨by kernel_rfl, fun w9 hw => by rw [hw]; exact y_int rfl rfl cI⟩) hHeld ?_
        simp only [Act.put, List.setIfInBounds_toArray, List.set_cons_zero, List.set_cons_succ]
        refine takeD (i := 10) (d := some 28) (v := (.pointer (some ⟨b, o + pre.length * 36, none⟩))) rfl (by kernel_rfl) (by kernel_rfl) (by kernel_rfl) rfl (fun _ _ _ h => h) (Or.inl ⟨by kernel_rfl, fun w9 hw => y_ixkv rfl rfl rfl HK.out.2.2.2.2⟩) hHeld ?_
        simp only [Act.put, List.setIfInBounds_toArray, List.set_cons_zero, List.set_cons_succ]
        refine takeD (i := 11) (d := some 29) (v := (.pointer (some ⟨b, o + pre.length * 36, none⟩))) rfl (by kernel_rfl) (by kernel_rfl) (by kernel_rfl) rfl (fun _ _ _ h => h) (Or.inl ⟨by kernel_rfl, fun w9 hw => y_fk0' rfl rfl⟩) hHeld ?_
        simp only [Act.put, List.setIfInBounds_toArray, List.set_cons_zero, List.set_cons_succ]
        refine takeD (i := 12) (d := some 30) (v := (.agg y.1.L.toArray)) rfl (by kernel_rfl) (by kernel_rfl) (by kernel_rfl) rfl (fun _ _ _ h => h) (Or.inl ⟨by kernel_rfl, fun w9 hw => by rw [hw]; exact y_key rfl rfl HK.out.2.2.1⟩) hHeld ?_
        simp only [Act.put, List.setIfInBounds_toArray, List.set_cons_zero, List.set_cons_succ]
        refine takeD (i := 13) (d := some 31) (v := (.bool true)) rfl (by kernel_rfl) (by kernel_rfl) (by kernel_rfl) rfl (fun _ _ _ h => h) (Or.inl ⟨by kernel_rfl, fun w9 hw => y_neqKd (d := false) d1 rfl rfl rfl⟩) hHeld ?_
        simp only [Act.put, List.setIfInBounds_toArray, List.set_cons_zero, List.set_cons_succ]
        refine takeD (i := 14) (d := some 32) (v := (.bool true)) rfl (by kernel_rfl) (by kernel_rfl) (by kernel_rfl) rfl (fun _ _ _ h => h) (Or.inl ⟨by kernel_rfl, fun w9 hw => y_pick (b := false) rfl rfl rfl⟩) hHeld ?_
        simp only [Act.put, List.setIfInBounds_toArray, List.set_cons_zero, List.set_cons_succ]
        refine takeD (i := 15) (d := some 33) (v := (.bool true)) rfl (by kernel_rfl) (by kernel_rfl) (by kernel_rfl) rfl (fun _ _ _ h => h) (Or.inl ⟨by kernel_rfl, fun w9 hw => y_move rfl rfl⟩) hHeld ?_
        simp only [Act.put, List.setIfInBounds_toArray, List.set_cons_zero, List.set_cons_succ]
        refine takeD (i := 16) (d := some 34) (v := undef) rfl (by kernel_rfl) (by kernel_rfl) (by kernel_rfl) rfl (fun _ _ _ h => h) (Or.inr ⟨by kernel_rfl, rfl⟩) hHeld ?_
        simp only [Act.put, List.setIfInBounds_toArray, List.set_cons_zero, List.set_cons_succ]
        refine takeD (i := 17) (d := some 35) (v := undef) rfl (by kernel_rfl) (by kernel_rfl) (by kernel_rfl) rfl (fun _ _ _ h => h) (Or.inr ⟨by kernel_rfl, rfl⟩) hHeld ?_
        simp only [Act.put, List.setIfInBounds_toArray, List.set_cons_zero, List.set_cons_succ]
        refine takeD (i := 18) (d := some 36) (v := undef) rfl (by kernel_rfl) (by kernel_rfl) (by kernel_rfl) rfl (fun _ _ _ h => h) (Or.inr ⟨by kernel_rfl, rfl⟩) hHeld ?_
        simp only [Act.put, List.setIfInBounds_toArray, List.set_cons_zero, List.set_cons_succ]
        refine takeD (i := 19) (d := some 37) (v := undef) rfl (by kernel_rfl) (by kernel_rfl) (by kernel_rfl) rfl (fun _ _ _ h => h) (Or.inr ⟨by kernel_rfl, rfl⟩) hHeld ?_
        simp only [Act.put, List.setIfInBounds_toArray, List.set_cons_zero, List.set_cons_succ]
        refine takeD (i := 20) (d := some 38) (v := undef) rfl (by kernel_rfl) (by kernel_rfl) (by kernel_rfl) rfl (fun _ _ _ h => h) (Or.inr ⟨by kernel_rfl, rfl⟩) hHeld ?_
        simp only [Act.put, List.setIfInBounds_toArray, List.set_cons_zero, List.set_cons_succ]
        refine takeD (i := 21) (d := some 39) (v := undef) rfl (by kernel_rfl) (by kernel_rfl) (by kernel_rfl) rfl (fun _ _ _ h => h) (Or.inr ⟨by kernel_rfl, rfl⟩) hHeld ?_
        simp only [Act.put, List.setIfInBounds_toArray, List.set_cons_zero, List.set_cons_succ]
        refine takeD (i := 22) (d := some 40) (v := undef) rfl (by kernel_rfl) (by kernel_rfl) (by kernel_rfl) rfl (fun _ _ _ h => h) (Or.inr ⟨by kernel_rfl, rfl⟩) hHeld ?_
        simp only [Act.put, List.setIfInBounds_toArray, List.set_cons_zero, List.set_cons_succ]
        refine takeD (i := 23) (d := some 41) (v := undef) rfl (by kernel_rfl) (by kernel_rfl) (by kernel_rfl) rfl (fun _ _ _ h => h) (Or.inr ⟨by kernel_rfl, rfl⟩) hHeld ?_
        simp only [Act.put, List.setIfInBounds_toArray, List.set_cons_zero, List.set_cons_succ]
        refine takeD (i := 24) (d := some 42) (v := (.bool true)) rfl (by kernel_rfl) (by kernel_rfl) (by kernel_rfl) rfl (fun _ _ _ h => h) (Or.inl ⟨by kernel_rfl, fun w9 hw => y_pick (b := true) rfl rfl rfl⟩) hHeld ?_
        simp only [Act.put, List.setIfInBounds_toArray, List.set_cons_zero, List.set_cons_succ]
        refine wpAnyH_done (by kernel_rfl) ?_ _
        gi_wp2_with fail
        have hret := HRET.out (fun e => e1 (by rw [e]))
        exact ⟨hret.1, rfl, hret.2.2⟩
    case done =>
      rintro D xs X hD hxs ⟨⟨hT, hBi⟩, _⟩ hK
      rw [hxs] at hBi
      clear hxs
      have hDs := (Array.getElem?_eq_some_iff.1 hK).1
      have hI := HI.out.2
      have hT2 : TT w hL base h1 (allF hL) v (.slice A l.length c) l X.heap.size ({ target := .collected D, args := #[] } :: Ds) X := ⟨hT.bl, hT.rw, hT.ru, hT.uf, hT.vf, hT.bk, hT.br, ⟨D, by omega, hDs, rfl, hK, hT.mks.mono hD⟩, hT.lo, Nat.le_refl _, hT.hl⟩
      have cI : X.cell? ⟨hi, 0, none⟩ = some (.int .i64 (l.length : Int)) := hBi.cell 0
      have c1 : X.cell? ⟨h1, 1, none⟩ = some (.slice A l.length c) := hT.bk.cell 1
      have c0 : X.cell? ⟨h1, 0, none⟩ = some (.func (.func 62) #[] #[.pointer (some ⟨hL, 0, none⟩)]) := hT.bk.cell 0
      have hX2 : h1 + 2 ≤ X.heap.size := by omega
      have HT2 := Lib.hid (And.intro hT2 hX2)
      clear hT hBi hK hD hDs hT2 hX2 hlow hsz hs1 hN1 hbi hI
      gi_wp2_with fail
      clear cI c1 c0
      have hT2 := HT2.out.1
      refine wpIn_rangeFunc_ownH (n := 6) rfl (by decide) (gf := 62) (lb := #[.pointer (some ⟨hL, 0, none⟩)]) rfl trivial (enters_of Try.func62 (by kernel_rfl) rfl)
        (all2_stops (n := 5) hT2.bl hT2.rw (by have := HL.out; omega) (by decide)) kpT_t (fun X l o o' _ hl hc _ => kpT_b X l o o' hl hc) (Below.refl _ _) (fun _ => rfl)
        (fun pre Y => TT w hL base h1 (allF hL) v (.slice A l.length c) l X.heap.size ({ target := .collected D, args := #[] } :: Ds) Y)
        (fun cd pre Y => cd = .exit 4 ∧ TT w hL base h1 (allF hL) v (.slice A l.length c) l X.heap.size ({ target := .collected D, args := #[] } :: Ds) Y)
        (tt_own HT2.out.2 (Nat.le_refl _) HS.out.1)
        (fun cd => OwnFrom.and (ownFrom_pure _ _) (tt_own HT2.out.2 (Nat.le_refl _) HS.out.1))
        hT2
        (fun _ _ _ => True)
        (fun _ _ _ _ _ _ _ _ _ => trivial)
        ?assign2 ?body2 ?done2 ?stop2
      case assign2 =>
        rintro loop pre x Y K hT3 hK
        gi_wp2_with fail
        exact hK _ _ (KeepsFrom.refl _ _) (fun _ _ _ _ h => h) hT3 trivial
      case body2 =>
        rintro loop pre x a' Y hlo ⟨r, hr⟩ hT3 _ hlt
        gi_wp2_with fail
        exact ⟨KeepsFrom.refl _ _, rfl, hT3⟩
      case done2 =>
        rintro D2 xs2 Y hD2 _ hT3 hK2
        have hDs2 := (Array.getElem?_eq_some_iff.1 hK2).1
        have H3 := Lib.hid (show TT w hL base h1 (allF hL) v (.slice A l.length c) l Y.heap.size ({ target := .collected D2, args := #[] } :: { target := .collected D, args := #[] } :: Ds) Y ∧ h1 + 2 ≤ Y.heap.size from ⟨⟨hT3.bl, hT3.rw, hT3.ru, hT3.uf, hT3.vf, hT3.bk, hT3.br, ⟨D2, by have := HT2.out.2; omega, hDs2, rfl, hK2, hT3.mks.mono hD2⟩, hT3.lo, Nat.le_refl _, hT3.hl⟩, by have := HT2.out.2; have := hT3.sz; omega⟩)
        clear hT3 hK2 hDs2 hD2 hT2
        gi_wp2_with fail
        exact ⟨⟨n + 1, _, _, _, _, _, _, _, _, _, _, _, _, _, _, _, _, _, _, _, _, _, _, _, _, _, _, _, _, _, _, _, _, _, _, _, _, _, _, _, _, _, _, _, _, _, _, HI.out.1, H3.out.1, H3.out.2, rfl⟩, by have := HI.out.1; show 2 - ((n : Int) + 1).toNat < 2 - ((n : Int)).toNat; omega⟩
      case stop2 =>
        rintro D2 cd pre Y hD2 hp ⟨rfl, hT3⟩ hK2
        have hDs2 := (Array.getElem?_eq_some_iff.1 hK2).1
        have H3 := Lib.hid (show TT w hL base h1 (allF hL) v (.slice A l.length c) l Y.heap.size ({ target := .collected D2, args := #[] } :: { target := .collected D, args := #[] } :: Ds) Y ∧ h1 + 2 ≤ Y.heap.size from ⟨⟨hT3.bl, hT3.rw, hT3.ru, hT3.uf, hT3.vf, hT3.bk, hT3.br, ⟨D2, by have := HT2.out.2; omega, hDs2, rfl, hK2, hT3.mks.mono hD2⟩, hT3.lo, Nat.le_refl _, hT3.hl⟩, by have := HT2.out.2; have := hT3.sz; omega⟩)
        clear hT3 hK2 hDs2 hD2 hT2 hp
        gi_wp2_with fail
        exact ⟨⟨n + 1, _, _, _, _, _, _, _, _, _, _, _, _, _, _, _, _, _, _, _, _, _, _, _, _, _, _, _, _, _, _, _, _, _, _, _, _, _, _, _, _, _, _, _, _, _, _, HI.out.1, H3.out.1, H3.out.2, rfl⟩, by have := HI.out.1; show 2 - ((n : Int) + 1).toNat < 2 - ((n : Int)).toNat; omega⟩
    case stop =>
      rintro D cd pre X _ hp ⟨_, h⟩ _
      exact absurd hp h
  · obtain rfl : n = 2 := by omega
    have g1 : ¬ ((2 : Nat) : Int) < 2 := by omega
    have cR : W.cell? ⟨h1 + 1, 0, none⟩ = some (.bool false) := hNB.br.cell 0
    have fR := hNB.br.free 0
    have mr : Mod (one (h1 + 1)) W (W.setCell ⟨h1 + 1, 0, none⟩ (.bool true)) := Mod.set (S := one (h1 + 1)) (p := ⟨h1 + 1, 0, none⟩) (Mod.refl _ W) (fun _ => rfl) _
    have hb2 := hNB.br.put 0 (.bool true)
    have hmk := hNB.mks.mod mr (fun k _ hko e => by
      have e : k = h1 + 1 := e
      subst e
      rw [show W.heap[h1 + 1]? = _ from hNB.br] at hko; cases hko)
    have hlo := hNB.lo.trans (mr.below hNB.lo.size (fun k _ e => by have e : k = h1 + 1 := e; have := HS.out.1; omega))
    have HE := Lib.hid (And.intro hb2 (And.intro hmk (And.intro hlo (show h1 ≤ (W.setCell ⟨h1 + 1, 0, none⟩ (.bool true)).heap.size by have := mr.size; omega))))
    clear hNB hsz hlt hn mr hb2 hmk hlo
    gi_wp2_with fail
    refine leaves_marks (lo := h1) HE.out.2.1 HE.out.2.2.2 ?_
    rintro W' hW' hC'
    have hcell : W'.cell? ⟨h1 + 1, 0, none⟩ = some (.bool true) := (hC' _ _ _ HE.out.1).cell 0
    refine ⟨.bool true, ?_, rfl, Mod.of_new (HE.out.2.2.1.trans (hW'.mono HS.out.1))⟩
    simp [results, Try.results31, go_sem, asAddr, hcell]
end Go.Proofs.Ytknbehjhaaidoaa.IX

