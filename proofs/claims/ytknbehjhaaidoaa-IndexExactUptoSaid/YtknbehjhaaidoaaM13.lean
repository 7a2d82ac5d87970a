/- IndexExact: the texts IxI of this seat, one behind the other. -/
import Derived.Test.YtknbehjhaaidoaaM12
/- An index: Next. -/
namespace Go.Proofs.Ytknbehjhaaidoaa.IX
open Go.RowKit Go.Shelf Mem HD TB
set_option linter.unusedVariables false
set_option linter.unusedSimpArgs false
attribute [local go_sem] Oper.semAt_some
section
variable {a : Act} {o : Oper} {w : World}
theorem y_bool {x : Operand} {p : Addr} {v : Value} (ho : o.op = .load 4 x) (hx : a.eval x = .pointer (some p)) (hc : w.cell? p = some v) (hv : v.oneCell' = true) : (execOp a.eval o).run Try.prog w = .ok (.value v) w := by
  generalize a.eval = ev at hx
  unfold execOp
  simp only [ho, hx]
  go_simp
theorem y_not {x : Operand} {b : Bool} (ho : o.op = .unOp .not 4 x) (hx : a.eval x = .bool b) : (execOp a.eval o).run Try.prog w = .ok (.value (.bool (!b))) w := by
  generalize a.eval = ev at hx
  unfold execOp
  simp only [ho, hx]
  go_simp
theorem y_slK {x : Operand} {b off : Nat} (ho : o.op = .slice 39 x none none none) (hx : a.eval x = .pointer (some ⟨b, off, none⟩)) : (execOp a.eval o).run Try.prog w = .ok (.value (.slice (some ⟨b, off, none⟩) 32 32)) w := by
  generalize a.eval = ev at hx
  unfold execOp
  simp only [ho, hx]
  go_simp
theorem y_fk {x : Operand} {b : Nat} (ho : o.op = .fieldAddr 58 x 0) (hx : a.eval x = .pointer (some ⟨b, 0, none⟩)) : (execOp a.eval o).run Try.prog w = .ok (.value (.pointer (some ⟨b, 0, none⟩))) w := by
  generalize a.eval = ev at hx
  unfold execOp
  simp only [ho, hx]
  go_simp
theorem y_gtr {x : Operand} {n : Int} {d : Bool} (hd : decide (n > 0) = d) (ho : o.op = .binOp .gtr 3 x (.const (.int .i64 0)) 3) (hx : a.eval x = .int .i64 n) : (execOp a.eval o).run Try.prog w = .ok (.value (.bool d)) w := by
  subst hd
  have hc : a.eval (.const (.int .i64 0)) = .int .i64 0 := rfl
  generalize a.eval = ev at hx hc
  unfold execOp
  simp only [ho, hx, hc]
  go_simp
theorem y_lss {x : Operand} {n : Int} {d : Bool} (hd : decide (n < 0) = d) (ho : o.op = .binOp .lss 3 x (.const (.int .i64 0)) 3) (hx : a.eval x = .int .i64 n) : (execOp a.eval o).run Try.prog w = .ok (.value (.bool d)) w := by
  subst hd
  have hc : a.eval (.const (.int .i64 0)) = .int .i64 0 := rfl
  generalize a.eval = ev at hx hc
  unfold execOp
  simp only [ho, hx, hc]
  go_simp
theorem y_pick {c x y : Operand} {b : Bool} {v : Value} (ho : o.op = .pick c x y) (hc : a.eval c = .bool b) (hx : (if b = true then a.eval x else a.eval y) = v) : (execOp a.eval o).run Try.prog w = .ok (.value v) w := by
  generalize a.eval = ev at hx hc
  unfold execOp
  simp only [ho, hc]
  cases b <;> simp at hx <;> subst hx <;> go_simp
end
/-- Five blocks of Next's own. -/
def N5 (w : World) (after : Key) (any : Bool) : World := ((((w.alloc (.cells after.L.toArray 39)).alloc (.cells #[.bool any] 4)).alloc (.cells (kvL none).toArray 58)).alloc (.cells (kvL none).toArray 58)).alloc (.cells #[.bool false] 4)
/-- What is known between two steps of Next. -/
structure NB (w : World) (g h0 : Nat) (R : Nat → Prop) (T : Nat → Tab Key Ent) (P : Nat → Nat) (Rs : Nat → Nat → Prop) (after : Key) (any : Bool) (L : List (Key × Ent)) (B : Nat) (Ds : List Deferred) (W : World) : Prop where
  ix : IxAt W g R T P Rs
  ba : Blk W h0 39 after.L.toArray
  bn : Blk W (h0 + 1) 4 #[.bool any]
  br : Blk W (h0 + 2) 58 (kvL none).toArray
  bl : Blk W (h0 + 3) 58 (kvL (best any after L)).toArray
  bf : Blk W (h0 + 4) 4 #[.bool (best any after L).isSome]
  mks : MK h0 B Ds W
  lo : Below w.heap.size w W
  sz : B ≤ W.heap.size
theorem n5_facts {w : World} {g : Nat} {R : Nat → Prop} {T : Nat → Tab Key Ent} {P : Nat → Nat} {Rs : Nat → Nat → Prop} (h : IxAt w g R T P Rs) (after : Key) (any : Bool) : NB w g w.heap.size (small R w) T P Rs after any [] (w.heap.size + 5) [] (N5 w after any) := by
  have hm : Mod no w (N5 w after any) := (((((Mod.refl no w).alloc _).alloc _).alloc _).alloc _).alloc _
  refine ⟨(h.small).mod hm (fun _ _ c => c), ?_, ?_, ?_, ?_, ?_, trivial, hm.below (Nat.le_refl _) (fun _ _ c => c.elim), by simp [N5]⟩
  · exact ((((Blk.new w 39 after.L.toArray).alloc _).alloc _).alloc _).alloc _
  · exact (((Blk.new_at (w.alloc (.cells after.L.toArray 39)) 4 _ (by simp)).alloc _).alloc _).alloc _
  · exact ((Blk.new_at ((w.alloc (.cells after.L.toArray 39)).alloc (.cells #[.bool any] 4)) 58 _ (by simp)).alloc _).alloc _
  · exact (Blk.new_at (((w.alloc (.cells after.L.toArray 39)).alloc (.cells #[.bool any] 4)).alloc (.cells (kvL none).toArray 58)) 58 _ (by simp)).alloc _
  · exact Blk.new_at ((((w.alloc (.cells after.L.toArray 39)).alloc (.cells #[.bool any] 4)).alloc (.cells (kvL none).toArray 58)).alloc (.cells (kvL none).toArray 58)) 4 _ (by simp)
theorem NB.mod {w : World} {g h0 B : Nat} {R : Nat → Prop} {T : Nat → Tab Key Ent} {P : Nat → Nat} {Rs : Nat → Nat → Prop} {after : Key} {any : Bool} {L : List (Key × Ent)} {Ds : List Deferred} {W W' : World} {S : Nat → Prop} (h : NB w g h0 R T P Rs after any L B Ds W) (m : Mod S W W') (hs : ∀ k, k < B → ¬ S k) (hB : h0 + 5 ≤ B) (hR : ∀ x, R x → x < h0) (hw : w.heap.size ≤ h0) : NB w g h0 R T P Rs after any L B Ds W' :=
  ⟨h.ix.mod m (fun x hx => hs x (by have := hR x hx; omega)), h.ba.mod m (hs _ (by omega)), h.bn.mod m (hs _ (by omega)), h.br.mod m (hs _ (by omega)), h.bl.mod m (hs _ (by omega)), h.bf.mod m (hs _ (by omega)), h.mks.mod m (fun k hk _ => hs k hk),
    h.lo.trans (m.below h.lo.size (fun k _ c => by
      by_cases e : w.heap.size ≤ k
      · exact e
      · exact absurd c (hs k (by omega)))), Nat.le_trans h.sz m.size⟩
theorem NB.up {w : World} {g h0 B B' : Nat} {R : Nat → Prop} {T : Nat → Tab Key Ent} {P : Nat → Nat} {Rs : Nat → Nat → Prop} {after : Key} {any : Bool} {L : List (Key × Ent)} {Ds : List Deferred} {W : World} (h : NB w g h0 R T P Rs after any L B Ds W) (hB : B ≤ B') (hs : B' ≤ W.heap.size) : NB w g h0 R T P Rs after any L B' Ds W :=
  ⟨h.ix, h.ba, h.bn, h.br, h.bl, h.bf, h.mks.mono hB, h.lo, hs⟩
theorem nb_own {w : World} {g h0 B : Nat} {R : Nat → Prop} {T : Nat → Tab Key Ent} {P : Nat → Nat} {Rs : Nat → Nat → Prop} {after : Key} {any : Bool} {L : List (Key × Ent)} {Ds : List Deferred} (hB : h0 + 5 ≤ B) (hR : ∀ x, R x → x < h0) (hw : w.heap.size ≤ h0) : OwnFrom B (fun pre W => NB w g h0 R T P Rs after any (L ++ pre) B Ds W) :=
  fun s W W' row hs hg hr => hs.mod (S := fun k => row = some k) (Mod.of_grown hg (fun k _ e => e)) (fun k hk e => by have := (hr k e).1; omega) hB hR hw
set_option maxRecDepth 100000 in
theorem keyed_parts (a0 a1 a2 a3 a4 a5 a6 a7 a8 a9 a10 a11 a12 a13 a14 a15 a16 a17 a18 a19 a20 a21 a22 a23 a24 a25 a26 a27 a28 a29 a30 a31 e0 e1 e2 e3 : Value) : Try.prog.built 58 [(0, .agg #[a0, a1, a2, a3, a4, a5, a6, a7, a8, a9, a10, a11, a12, a13, a14, a15, a16, a17, a18, a19, a20, a21, a22, a23, a24, a25, a26, a27, a28, a29, a30, a31]), (1, .agg #[e0, e1, e2, e3])] = some #[a0, a1, a2, a3, a4, a5, a6, a7, a8, a9, a10, a11, a12, a13, a14, a15, a16, a17, a18, a19, a20, a21, a22, a23, a24, a25, a26, a27, a28, a29, a30, a31, e0, e1, e2, e3] := by
  kernel_rfl
theorem keyed_built {k e : List Value} (hk : k.length = 32) (he : e.length = 4) : Try.prog.built 58 [(0, .agg k.toArray), (1, .agg e.toArray)] = some (k ++ e).toArray := by
  match k, hk, e, he with
  | [a0, a1, a2, a3, a4, a5, a6, a7, a8, a9, a10, a11, a12, a13, a14, a15, a16, a17, a18, a19, a20, a21, a22, a23, a24, a25, a26, a27, a28, a29, a30, a31], _, [e0, e1, e2, e3], _ => exact keyed_parts a0 a1 a2 a3 a4 a5 a6 a7 a8 a9 a10 a11 a12 a13 a14 a15 a16 a17 a18 a19 a20 a21 a22 a23 a24 a25 a26 a27 a28 a29 a30 a31 e0 e1 e2 e3
theorem y_keyed {a : Act} {o : Oper} {w : World} {x y : Operand} {k : Key} {e : Ent} (ho : o.op = .build 58 #[(0, x), (1, y)]) (hx : a.eval x = .agg k.L.toArray) (hy : a.eval y = .agg e.L.toArray) : (execOp a.eval o).run Try.prog w = .ok (.value (.agg (k.L ++ e.L).toArray)) w := by
  have h := run_build (P := Try.prog) w 58 #[(0, .agg k.L.toArray), (1, .agg e.L.toArray)] _ (keyed_built k.len e.len)
  unfold execOp
  simp only [ho, hx, hy, List.map_toArray, List.map_cons, List.map_nil, Sem.run_bind, h, Result.andThen_ok, Sem.run_pure]
theorem wpListIn_yield {F : Fence} {n : Nat} {P : Program} {ops : Array Oper} {rest : List Oper} {op : Oper} {a : Act} {w w' : World} {v : Value} {Q : Exit → Act → World → Prop} (hgd : Region.wanted op (yielded ops a.tmps) = true) (hab : op.about P w a.eval = none) (hd : ∀ c, op.op ≠ .defer c)
    (hy : (execOp a.eval op).run P w = .ok (.value v) w') (h : wpListIn F n P ops Q rest (a.put op.dst v) w') : wpListIn F n P ops Q (op :: rest) a w :=
  wpListIn_step fun _ hK => by
    rw [if_pos hgd]
    refine ⟨fun f hf => (by rw [hab] at hf; cases hf), ?_⟩
    rw [Oper.semAt_plain F _ _ hd, hy]
    exact hK _ _ h
theorem blk_own {β : Type} (B : Nat) (t : TypeId) (C : Array Value) : Own (fun (_ : β) W => Blk W B t C) := fun s X Y row hs hg hrow =>
  (hg.block B (Blk.lt hs) (fun e' => by obtain ⟨o, ho, hc⟩ := hrow B e'.symm; rw [show X.heap[B]? = _ from hs] at ho; cases ho; cases hc)).trans hs
def two (h0 k : Nat) : Prop := k = h0 + 3 ∨ k = h0 + 4
def tookW (W : World) (h0 : Nat) (x : Key × Ent) : World := (W.setCells (h0 + 3) 0 (x.1.L ++ x.2.L)).setCell ⟨h0 + 4, 0, none⟩ (.bool true)
section
variable {w : World} {g h0 B : Nat} {R : Nat → Prop} {T : Nat → Tab Key Ent} {P : Nat → Nat} {Rs : Nat → Nat → Prop} {after : Key} {any : Bool} {L : List (Key × Ent)} {Ds : List Deferred} {W : World} {x : Key × Ent}
theorem NB.keep (h : NB w g h0 R T P Rs after any L B Ds W) (ht : ¬ tst any after (best any after L) x.1 = true) : NB w g h0 R T P Rs after any (L ++ [x]) B Ds W := by
  have e : best any after (L ++ [x]) = best any after L := by rw [best_snoc]; unfold pick1; rw [if_neg ht]
  exact ⟨h.ix, h.ba, h.bn, h.br, by rw [e]; exact h.bl, by rw [e]; exact h.bf, h.mks, h.lo, h.sz⟩
theorem took_mod (h : NB w g h0 R T P Rs after any L B Ds W) : Mod (two h0) W (tookW W h0 x) :=
  Mod.set (S := two h0) (p := ⟨h0 + 4, 0, none⟩) (mod_setCells (S := two h0) (fun _ => .inl rfl) _ _ _ (Mod.refl _ _)) (fun _ => .inr rfl) _
theorem NB.took (h : NB w g h0 R T P Rs after any L B Ds W) (ht : tst any after (best any after L) x.1 = true) (hR : ∀ x, R x → x < h0) (hw : w.heap.size ≤ h0) : NB w g h0 R T P Rs after any (L ++ [x]) B Ds (tookW W h0 x) := by
  have e : best any after (L ++ [x]) = some x := by rw [best_snoc]; unfold pick1; rw [if_pos ht]
  have m := took_mod (x := x) h
  have hl : Blk (W.setCells (h0 + 3) 0 (x.1.L ++ x.2.L)) (h0 + 3) 58 (kvL (some x)).toArray := by
    have h1 := blk_sets (h0 + 3) (x.1.L ++ x.2.L) 0 (kvL (best any after L)) W h.bl (by rw [kvL_len, List.length_append, Key.len, Ent.len]; decide)
    rw [show (kvL (best any after L)).take 0 ++ (x.1.L ++ x.2.L) ++ (kvL (best any after L)).drop (0 + (x.1.L ++ x.2.L).length) = kvL (some x) from by rw [List.drop_of_length_le (by rw [kvL_len, List.length_append, Key.len, Ent.len]; decide)]; simp [kvL]] at h1
    exact h1
  have hf : Blk (W.setCells (h0 + 3) 0 (x.1.L ++ x.2.L)) (h0 + 4) 4 #[.bool (best any after L).isSome] := h.bf.mod (mod_setCells (S := one (h0 + 3)) (fun _ => rfl) _ _ _ (Mod.refl _ _)) (fun c => by have c : h0 + 4 = h0 + 3 := c; omega)
  refine ⟨h.ix.mod m (fun y hy c => by have := hR y hy; rcases c with c | c <;> omega), h.ba.mod m (fun c => by rcases c with c | c <;> omega), h.bn.mod m (fun c => by rcases c with c | c <;> omega), h.br.mod m (fun c => by rcases c with c | c <;> omega), ?_, ?_, h.mks.mod m (fun k _ hk c => ?_), h.lo.trans (m.below h.lo.size (fun k _ c => by rcases c with c | c <;> omega)), Nat.le_trans h.sz m.size⟩
  · rw [e]; exact hl.far (p := ⟨h0 + 4, 0, none⟩) (by show h0 + 3 ≠ h0 + 4; omega) _
  · rw [e]; exact hf.put 0 (.bool true)
  · rcases c with rfl | rfl
    · have := h.bl; rw [show W.heap[h0 + 3]? = _ from this] at hk; cases hk
    · have := h.bf; rw [show W.heap[h0 + 4]? = _ from this] at hk; cases hk
theorem NB.kp (h : NB w g h0 R T P Rs after any L B Ds W) {Ri : Nat → Prop} {b0 : Nat} (hRi : ∀ k, Ri k → k < h0) (hb0 : h0 + 5 ≤ b0) {W' : World} (m : Mod (two h0) W W') : KpT (fun k => Ri k ∨ k = b0) W W' := fun k t c hk hB =>
  hB.mod m (fun d => by
    rcases hk with (hk | hk) | rfl
    · have := hRi k hk; rcases d with d | d <;> omega
    · rcases d with d | d <;> omega
    · rcases d with rfl | rfl
      · exact absurd (Blk.same h.bl hB).1 (by decide)
      · exact absurd (Blk.same h.bf hB).1 (by decide))
end
theorem setCells_size (b : Nat) : ∀ (vs : List Value) (o : Nat) (w : World), (w.setCells b o vs).heap.size = w.heap.size
  | [], _, _ => rfl
  | v :: r, o, w => by rw [World.setCells, setCells_size b r]; simp
theorem keyed_key {W : World} {b : Nat} {y : Key × Ent} (h : Blk W b 58 (kvL (some y)).toArray) : W.rangeAt b 0 y.1.L := fun j v hv => by
  refine blk_range h j v ?_
  have hj := (List.getElem?_eq_some_iff.1 hv).1
  show (y.1.L ++ y.2.L)[j]? = some v
  rw [List.getElem?_append_left hj]
  exact hv
theorem from_mod {S : Nat → Prop} {B : Nat} {W W' : World} (m : Mod S W W') (hs : ∀ k, B ≤ k → ¬ S k) : KeepsFrom B W W' :=
  ⟨m.size, fun k o hB hk _ => (m.block k (Array.getElem?_eq_some_iff.1 hk).1 (hs k hB)).trans hk⟩
theorem kp_no {T : Nat → Prop} {W W' : World} (m : Mod no W W') : KpT T W W' := fun k t c _ hB => hB.mod m (fun c => c)
set_option maxRecDepth 100000 in
set_option maxHeartbeats 4000000 in
theorem ixnext_any {w : World} {g : Nat} {R : Nat → Prop} {T : Nat → Tab Key Ent} {P : Nat → Nat} {Rs : Nat → Nat → Prop} (h : IxAt w g R T P Rs) (after : Key) (any : Bool) : Calls Try.prog 22 #[.pointer (some ⟨g, 0, none⟩), .agg after.L.toArray, .bool any] w fun e w' => (∃ r, e = .returned (.tuple #[.agg (kvL r).toArray, .bool r.isSome]) ∧ Best any after (IL T) r) ∧ Mod no w w' := by
  refine (callsIn_wide (n := 6)).1 ?_
  have HB := Lib.hid (n5_facts h after any)
  have HR := Lib.hid (show ∀ x, small R w x → x < w.heap.size from fun x hx => hx.2)
  clear h
  refine callsIn_of_wp_marks Try.func22 rfl trivial ?_ rfl
  simp only [Try.ntmps22, List.size_toArray, List.length_cons, List.length_nil, Nat.reduceAdd, Nat.reduceSub, Array.replicate_succ, Array.replicate_zero, List.push_toArray, List.append_toArray, List.nil_append, List.cons_append]
  gi_wp2_with (first
    | (refine ⟨trivial, ?_⟩; gi_at_call 53; refine (callsIn_wide.2 (there_any HB.out.ix)).mono ?_; rintro e w' ⟨rfl, rfl⟩)
    | (refine wpListIn_load_mid (by rfl) 101 (.tmp 20) (by rfl) g 0 (by rfl) (ptrL P) _ (by exact blk_range HB.out.ix.b) Try.underlying101 rfl (arr16_sizeG (ptrL_len P)) ?_))
  obtain ⟨w5, hw5⟩ : ∃ w5, w5 = N5 w after any := ⟨_, rfl⟩
  change Code.wpIn Fence.wide 6 Try.prog _ _ _ (N5 w after any)
  rw [← hw5] at HB ⊢
  obtain ⟨h0, hh0⟩ : ∃ h0, h0 = w.heap.size := ⟨_, rfl⟩
  have HS := Lib.hid (show w.heap.size ≤ h0 ∧ w5.heap.size = h0 + 5 from by rw [hh0, hw5]; exact ⟨Nat.le_refl _, by simp [N5]⟩)
  clear hw5
  rw [← hh0] at HR ⊢
  have HB := Lib.hid (show NB w g h0 (small R w) T P Rs after any [] (h0 + 5) [] w5 from by rw [hh0]; exact HB.out)
  clear hh0
  refine wpIn_loop (fun a W => ∃ (i : Nat) (Ds : List Deferred) (u11 u12 u13 u23 u24 u25 u26 u27 u28 u29 u30 u31 u32 u33 u34 u35 u36 u37 u38 u39 u40 u41 u42 u43 u44 u45 u46 u47 u48 u49 u50 : Value), i ≤ 16 ∧ NB w g h0 (small R w) T P Rs after any (seen T i) W.heap.size Ds W ∧ h0 + 5 ≤ W.heap.size ∧ a = { tmps := #[.pointer (some ⟨g, 0, none⟩), .agg after.L.toArray, .bool any, undef, .pointer (some ⟨h0, 0, none⟩), .pointer (some ⟨(h0 + 1), 0, none⟩), .pointer (some ⟨(h0 + 2), 0, none⟩), .bool false, .pointer (some ⟨(h0 + 3), 0, none⟩), .pointer (some ⟨(h0 + 4), 0, none⟩), undef, u11, u12, u13, .pointer (some ⟨g, 0, none⟩), .bool true, .bool false, undef, .pointer (some ⟨g, 0, none⟩), .pointer (some ⟨g, 0, none⟩), .pointer (some ⟨g, 0, none⟩), .agg (ptrL P).toArray, .int .i64 (i : Int), u23, u24, u25, u26, u27, u28, u29, u30, u31, u32, u33, u34, u35, u36, u37, u38, u39, u40, u41, u42, u43, u44, u45, u46, u47, u48, u49, u50, undef, undef], defers := Ds }) (fun a _ => 16 - (intOf (a.tmps.getD 22 undef)).toNat) ⟨0, [], undef, undef, undef, undef, undef, undef, undef, undef, undef, undef, undef, undef, undef, undef, undef, undef, undef, undef, undef, undef, undef, undef, undef, undef, undef, undef, undef, undef, undef, undef, undef, by omega, by rw [HS.out.2]; exact HB.out, by rw [HS.out.2]; exact Nat.le_refl _, rfl⟩ ?_
  clear HB
  rintro a W ⟨i, Ds, u11, u12, u13, u23, u24, u25, u26, u27, u28, u29, u30, u31, u32, u33, u34, u35, u36, u37, u38, u39, u40, u41, u42, u43, u44, u45, u46, u47, u48, u49, u50, hi, hNB, hsz, rfl⟩
  by_cases hlt : i < 16
  · have g1 : (i : Int) < 16 := by omega
    have HN := Lib.hid (And.intro hNB (And.intro hsz hlt))
    clear hNB hsz hlt hi
    gi_wp2_with (first
      | (refine wpListIn_yield (by rfl) (by rfl) (by rintro c hc; cases hc) (y_ixp (P := P) (i := i) rfl rfl rfl HN.out.2.2) ?_)
      | (refine ⟨trivial, ?_⟩; gi_at_call 57; refine (all_in _ _ _).mono ?_; rintro e w' ⟨rfl, rfl⟩))
    obtain ⟨ya, ys, po, hTM⟩ := HN.out.1.ix.t i HN.out.2.2
    have hwf := HN.out.1.ix.wf i HN.out.2.2
    have m1 : Mod no W (W.alloc (.cells #[.pointer (some ⟨P i, 0, none⟩)] 100)) := (Mod.refl no W).alloc _
    have hTM1 := hTM.mod m1 (fun _ _ c => c)
    have hN1 : NB w g h0 (small R w) T P Rs after any (seen T i) (W.heap.size + 1) Ds (W.alloc (.cells #[.pointer (some ⟨P i, 0, none⟩)] 100)) := (HN.out.1.mod m1 (fun _ _ c => c) HN.out.2.1 HR.out HS.out.1).up (Nat.le_succ _) (by simp)
    have hBX := Blk.new W 100 #[.pointer (some ⟨P i, 0, none⟩)]
    have hRi : ∀ k, Rs i k → k < h0 := fun k hk => HR.out k (HN.out.1.ix.sub i HN.out.2.2 k hk).1
    have hsz := HN.out.2.1
    obtain ⟨W1, hW1⟩ : ∃ W1, W1 = W.alloc (.cells #[.pointer (some ⟨P i, 0, none⟩)] 100) := ⟨_, rfl⟩
    have hs1 : W1.heap.size = W.heap.size + 1 := by rw [hW1]; simp
    obtain ⟨b0, hb0⟩ : ∃ b0, b0 = W.heap.size := ⟨_, rfl⟩
    rw [← hb0] at hN1 hBX hsz hs1 ⊢
    rw [← hW1] at hN1 hTM1 hBX ⊢
    rw [← hs1] at hN1
    have HI := Lib.hid (And.intro HN.out.2.2 (And.intro hRi (And.intro hsz hs1)))
    clear m1 hTM hW1 hb0 HN hRi
    refine wpIn_rangeFunc_ownH (n := 6) rfl (by decide) (gf := 92) (lb := #[.pointer (some ⟨b0, 0, none⟩)]) rfl trivial (enters_of Try.func92 (by kernel_rfl) rfl)
      (all_stops (n := 5) hTM1 hwf hBX (by decide)) kpT_t (fun X l o o' _ hl hc _ => kpT_b X l o o' hl hc) (Below.refl _ _) (fun _ => rfl)
      (fun pre X => NB w g h0 (small R w) T P Rs after any (seen T i ++ pre) W1.heap.size Ds X)
      (fun _ _ _ => False)
      (nb_own (by omega) HR.out HS.out.1)
      (fun _ _ _ _ _ hs _ _ => hs)
      (by rw [List.append_nil]; exact hN1)
      (fun x a' X => ∃ Bk, W1.heap.size ≤ Bk ∧ Blk X Bk 39 x.1.L.toArray ∧ Blk X (Bk + 1) 56 x.2.L.toArray ∧ a' = { tmps := #[.pointer (some ⟨g, 0, none⟩), .agg after.L.toArray, .bool any, undef, .pointer (some ⟨h0, 0, none⟩), .pointer (some ⟨(h0 + 1), 0, none⟩), .pointer (some ⟨(h0 + 2), 0, none⟩), .bool false, .pointer (some ⟨(h0 + 3), 0, none⟩), .pointer (some ⟨(h0 + 4), 0, none⟩), undef, .pointer (some ⟨P i, 0, none⟩), .pointer (some ⟨Bk, 0, none⟩), .pointer (some ⟨(Bk + 1), 0, none⟩), .pointer (some ⟨g, 0, none⟩), .bool true, .bool false, undef, .pointer (some ⟨g, 0, none⟩), .pointer (some ⟨g, 0, none⟩), .pointer (some ⟨g, 0, none⟩), .agg (ptrL P).toArray, .int .i64 (i : Int), .bool true, .pointer (some ⟨P i, 0, none⟩), .pointer (some ⟨P i, 0, none⟩), .func (.func 92) #[] #[.pointer (some ⟨b0, 0, none⟩)], .agg x.1.L.toArray, .agg x.2.L.toArray, u29, u30, u31, u32, u33, u34, u35, u36, u37, u38, u39, u40, u41, u42, u43, u44, u45, u46, u47, u48, u49, u50, undef, undef], defers := [] })
      (fun x a' _ X Y row hs hg hr => by obtain ⟨Bk, h1, h2, h3, h4⟩ := hs; exact ⟨Bk, h1, blk_own (β := Unit) Bk 39 _ () X Y row h2 hg (fun r e => (hr r e).2), blk_own (β := Unit) (Bk + 1) 56 _ () X Y row h3 hg (fun r e => (hr r e).2), h4⟩)
      ?assign ?body ?done ?stop
    case assign =>
      rintro l pre x X K hNB hK
      have HA := Lib.hid (And.intro hNB (And.intro trivial hK))
      have HK1 := Lib.hid (show World.there (X.alloc (.cells k0.L.toArray 39)) X.heap.size 0 x.1.L.toArray.size from blk_there (Blk.new X 39 k0.L.toArray) 0 _ (by rw [List.size_toArray, List.size_toArray, Key.len, Key.len]; decide))
      have HF1 := Lib.hid (show ∀ w2, w2 = World.setCells (X.alloc (.cells k0.L.toArray 39)) X.heap.size 0 x.1.L.toArray.toList → Mod no X w2 ∧ Blk w2 X.heap.size 39 x.1.L.toArray ∧ w2.heap.size = X.heap.size + 1 from fun w2 e => by
        subst e
        refine ⟨mod_setCells (fun c => absurd c (Nat.lt_irrefl _)) _ _ _ ((Mod.refl no X).alloc _), ?_, by rw [setCells_size]; simp⟩
        have h1 := blk_sets X.heap.size x.1.L 0 k0.L _ (Blk.new X 39 k0.L.toArray) (by rw [Key.len, Key.len]; decide)
        rw [show k0.L.take 0 ++ x.1.L ++ k0.L.drop (0 + x.1.L.length) = x.1.L from by rw [List.drop_of_length_le (by rw [Key.len, Key.len]; decide)]; simp] at h1
        exact h1)
      have HF2 := Lib.hid (show ∀ Y : World, World.there (Y.alloc (.cells e0.L.toArray 56)) Y.heap.size 0 x.2.L.toArray.size ∧ ∀ w2, w2 = World.setCells (Y.alloc (.cells e0.L.toArray 56)) Y.heap.size 0 x.2.L.toArray.toList → Mod no Y w2 ∧ Blk w2 Y.heap.size 56 x.2.L.toArray from fun Y => ⟨blk_there (Blk.new Y 56 e0.L.toArray) 0 _ (Nat.le_refl 4), fun w2 e => by
        subst e
        exact ⟨mod_setCells (fun c => absurd c (Nat.lt_irrefl _)) _ _ _ ((Mod.refl no Y).alloc _), blk_sets Y.heap.size x.2.L 0 e0.L _ (Blk.new Y 56 e0.L.toArray) (Nat.le_refl 4)⟩⟩)
      clear hNB hK hTM1 hwf hN1 hBX hsz hs1
      gi_wp2_with (first
        | (refine wpListIn_store_mid rfl 39 (.tmp 12) (.tmp 27) (by rfl) X.heap.size 0 x.1.L.toArray (by rfl) (by rfl) (by exact HK1.out) (by rw [List.size_toArray]; exact key_sizeG x.1.len) (all_oneCell_toArray (key_ones _)) ?_
           obtain ⟨w2, hw2⟩ : ∃ w2, w2 = World.setCells (X.alloc (.cells k0.L.toArray 39)) X.heap.size 0 x.1.L.toArray.toList := ⟨_, rfl⟩
           change wpListIn (Fence.wide.inRound l) _ Try.prog _ _ _ _ (World.setCells (X.alloc (.cells k0.L.toArray 39)) X.heap.size 0 x.1.L.toArray.toList)
           rw [← hw2]
           have H2 := Lib.hid (HF1.out w2 hw2)
           clear hw2 HF1 HK1)
        | (refine wpListIn_store_mid rfl 56 (.tmp 13) (.tmp 28) (by rfl) w2.heap.size 0 x.2.L.toArray (by rfl) (by rfl) (by exact (HF2.out w2).1) (ent_sizeG _) (all_oneCell_toArray (ent_ones _)) ?_
           obtain ⟨w4, hw4⟩ : ∃ w4, w4 = World.setCells (w2.alloc (.cells e0.L.toArray 56)) w2.heap.size 0 x.2.L.toArray.toList := ⟨_, rfl⟩
           change wpListIn (Fence.wide.inRound l) _ Try.prog _ _ _ _ (World.setCells (w2.alloc (.cells e0.L.toArray 56)) w2.heap.size 0 x.2.L.toArray.toList)
           rw [← hw4]
           have H4 := Lib.hid ((HF2.out w2).2 w4 hw4)
           clear hw4 HF2))
      have m4 : Mod no X w4 := H2.out.1.and_then H4.out.1
      refine HA.out.2.2 _ _ (from_mod m4 (fun _ _ c => c)) (kp_no m4) (HA.out.1.mod m4 (fun _ _ c => c) (by have := HI.out.2.2; omega) HR.out HS.out.1) ⟨X.heap.size, ?_, H2.out.2.1.mod H4.out.1 (fun c => c), ?_, ?_⟩
      · exact HA.out.1.sz
      · rw [← H2.out.2.2]; exact H4.out.2
      · rw [← H2.out.2.2]
    case body =>
      rintro l pre x a' X hl ⟨r, hr⟩ hNB ⟨Bk, hBk, bK, bE, rfl⟩ hlt
      obtain ⟨b, hb⟩ : ∃ b, b = best any after (seen T i ++ pre) := ⟨_, rfl⟩
      have hbl := hNB.bl
      have hbf := hNB.bf
      rw [← hb] at hbl hbf
      have md : Mod no X X.drew := (Mod.refl no X).drew
      have HX := Lib.hid (And.intro hNB (And.intro hb md))
      have HG := Lib.hid (And.intro hbl (And.intro hbf (And.intro (blk_range bK) (And.intro (blk_range hNB.ba) (blk_range bE)))))
      have hbn := hNB.bn
      have HKEEP := Lib.hid (show ¬ tst any after b x.1 = true → KeepsFrom W1.heap.size X X.drew ∧ KpT (fun k => Rs i k ∨ k = b0) X X.drew ∧ NB w g h0 (small R w) T P Rs after any (seen T i ++ (pre ++ [x])) W1.heap.size Ds X.drew from fun ht => by
        rw [hb] at ht
        refine ⟨from_mod md (fun _ _ c => c), kp_no md, ?_⟩
        rw [← List.append_assoc]
        exact (hNB.keep ht).mod md (fun _ _ c => c) (by have := HI.out.2.2; omega) HR.out HS.out.1)
      have HTOOK := Lib.hid (show tst any after b x.1 = true → KeepsFrom W1.heap.size X (tookW X.drew h0 x) ∧ KpT (fun k => Rs i k ∨ k = b0) X (tookW X.drew h0 x) ∧ NB w g h0 (small R w) T P Rs after any (seen T i ++ (pre ++ [x])) W1.heap.size Ds (tookW X.drew h0 x) from fun ht => by
        rw [hb] at ht
        have hd := hNB.mod md (fun _ _ c => c) (by have := HI.out.2.2; omega) HR.out HS.out.1
        have mt : Mod (two h0) X (tookW X.drew h0 x) := (md.mono (fun _ _ c => c.elim)).and_then (took_mod hd)
        refine ⟨from_mod mt (fun k hk c => by have := HI.out.2.2; rcases c with c | c <;> omega), hNB.kp HI.out.2.1 HI.out.2.2.1 mt, ?_⟩
        rw [← List.append_assoc]
        exact hd.took ht HR.out HS.out.1)
      have HTH := Lib.hid (show World.there X.drew (h0 + 3) 0 (x.1.L ++ x.2.L).toArray.size from blk_there hbl.drew 0 _ (by rw [List.size_toArray, List.size_toArray, kvL_len, List.length_append, Key.len, Ent.len]; decide))
      have HF3 := Lib.hid (show ∀ w2, w2 = World.setCells X.drew (h0 + 3) 0 (x.1.L ++ x.2.L).toArray.toList → w2.cell? ⟨h0 + 4, 0, none⟩ = some (.bool b.isSome) ∧ w2.frozen? ⟨h0 + 4, 0, none⟩ = false ∧ tookW X.drew h0 x = w2.setCell ⟨h0 + 4, 0, none⟩ (.bool true) from fun w2 e => by
        have hB := (hbf.drew).mod (mod_setCells (S := one (h0 + 3)) (fun _ => rfl) (x.1.L ++ x.2.L) 0 _ (Mod.refl _ _)) (fun c => by have c : h0 + 4 = h0 + 3 := c; omega)
        subst e
        exact ⟨hB.cell 0, hB.free 0, rfl⟩)
      clear hTM1 hwf hN1 hBX hsz hs1 hNB hb hbl hbf bK bE md hl hr hlt
      cases any with
      | true =>
        have ha : asked true after x.1 = true := rfl
        cases b with
        | none =>
          gi_wp2_with fail
          refine region_in (S := fun w9 => w9 = X.drew) (by kernel_rfl) (by kernel_rfl) (fun ⟨a, w, h⟩ => h) rfl (fun hHeld => ?_)
          refine takeD (i := 0) (d := some 29) (v := (.bool true)) rfl (by kernel_rfl) (by kernel_rfl) (by kernel_rfl) rfl (fun _ _ _ h => h) (Or.inl ⟨by kernel_rfl, fun w9 hw => by rw [hw]; exact y_bool rfl rfl (hbn.cell 0) rfl⟩) hHeld ?_
          simp only [Act.put, List.setIfInBounds_toArray, List.set_cons_zero, List.set_cons_succ]
          refine takeD (i := 1) (d := some 30) (v := (.bool true)) rfl (by kernel_rfl) (by kernel_rfl) (by kernel_rfl) rfl (fun _ _ _ h => h) (Or.inl ⟨by kernel_rfl, fun w9 hw => y_move rfl rfl⟩) hHeld ?_
          simp only [Act.put, List.setIfInBounds_toArray, List.set_cons_zero, List.set_cons_succ]
          refine takeD (i := 2) (d := some 31) (v := undef) rfl (by kernel_rfl) (by kernel_rfl) (by kernel_rfl) rfl (fun _ _ _ h => h) (Or.inr ⟨by kernel_rfl, rfl⟩) hHeld ?_
          simp only [Act.put, List.setIfInBounds_toArray, List.set_cons_zero, List.set_cons_succ]
          refine takeD (i := 3) (d := some 32) (v := undef) rfl (by kernel_rfl) (by kernel_rfl) (by kernel_rfl) rfl (fun _ _ _ h => h) (Or.inr ⟨by kernel_rfl, rfl⟩) hHeld ?_
          simp only [Act.put, List.setIfInBounds_toArray, List.set_cons_zero, List.set_cons_succ]
          refine takeD (i := 4) (d := some 33) (v := undef) rfl (by kernel_rfl) (by kernel_rfl) (by kernel_rfl) rfl (fun _ _ _ h => h) (Or.inr ⟨by kernel_rfl, rfl⟩) hHeld ?_
          simp only [Act.put, List.setIfInBounds_toArray, List.set_cons_zero, List.set_cons_succ]
          refine takeD (i := 5) (d := some 34) (v := undef) rfl (by kernel_rfl) (by kernel_rfl) (by kernel_rfl) rfl (fun _ _ _ h => h) (Or.inr ⟨by kernel_rfl, rfl⟩) hHeld ?_
          simp only [Act.put, List.setIfInBounds_toArray, List.set_cons_zero, List.set_cons_succ]
          refine takeD (i := 6) (d := some 35) (v := (.bool true)) rfl (by kernel_rfl) (by kernel_rfl) (by kernel_rfl) rfl (fun _ _ _ h => h) (Or.inl ⟨by kernel_rfl, fun w9 hw => y_pick (b := true) rfl rfl rfl⟩) hHeld ?_
          simp only [Act.put, List.setIfInBounds_toArray, List.set_cons_zero, List.set_cons_succ]
          refine takeD (i := 7) (d := some 36) (v := (.bool true)) rfl (by kernel_rfl) (by kernel_rfl) (by kernel_rfl) rfl (fun _ _ _ h => h) (Or.inl ⟨by kernel_rfl, fun w9 hw => y_move rfl rfl⟩) hHeld ?_
          simp only [Act.put, List.setIfInBounds_toArray, List.set_cons_zero, List.set_cons_succ]
          refine takeD (i := 8) (d := some 37) (v := (.bool false)) rfl (by kernel_rfl) (by kernel_rfl) (by kernel_rfl) rfl (fun _ _ _ h => h) (Or.inl ⟨by kernel_rfl, fun w9 hw => by rw [hw]; exact y_bool rfl rfl (HG.out.2.1.cell 0) rfl⟩) hHeld ?_
          simp only [Act.put, List.setIfInBounds_toArray, List.set_cons_zero, List.set_cons_succ]
          refine takeD (i := 9) (d := some 38) (v := (.bool true)) rfl (by kernel_rfl) (by kernel_rfl) (by kernel_rfl) rfl (fun _ _ _ h => h) (Or.inl ⟨by kernel_rfl, fun w9 hw => y_not (b := false) rfl rfl⟩) hHeld ?_
          simp only [Act.put, List.setIfInBounds_toArray, List.set_cons_zero, List.set_cons_succ]
          refine takeD (i := 10) (d := some 39) (v := (.bool true)) rfl (by kernel_rfl) (by kernel_rfl) (by kernel_rfl) rfl (fun _ _ _ h => h) (Or.inl ⟨by kernel_rfl, fun w9 hw => y_move rfl rfl⟩) hHeld ?_
          simp only [Act.put, List.setIfInBounds_toArray, List.set_cons_zero, List.set_cons_succ]
          refine takeD (i := 11) (d := some 40) (v := undef) rfl (by kernel_rfl) (by kernel_rfl) (by kernel_rfl) rfl (fun _ _ _ h => h) (Or.inr ⟨by kernel_rfl, rfl⟩) hHeld ?_
          simp only [Act.put, List.setIfInBounds_toArray, List.set_cons_zero, List.set_cons_succ]
          refine takeD (i := 12) (d := some 41) (v := undef) rfl (by kernel_rfl) (by kernel_rfl) (by kernel_rfl) rfl (fun _ _ _ h => h) (Or.inr ⟨by kernel_rfl, rfl⟩) hHeld ?_
          simp only [Act.put, List.setIfInBounds_toArray, List.set_cons_zero, List.set_cons_succ]
          refine takeD (i := 13) (d := some 42) (v := undef) rfl (by kernel_rfl) (by kernel_rfl) (by kernel_rfl) rfl (fun _ _ _ h => h) (Or.inr ⟨by kernel_rfl, rfl⟩) hHeld ?_
          simp only [Act.put, List.setIfInBounds_toArray, List.set_cons_zero, List.set_cons_succ]
          refine takeD (i := 14) (d := some 43) (v := undef) rfl (by kernel_rfl) (by kernel_rfl) (by kernel_rfl) rfl (fun _ _ _ h => h) (Or.inr ⟨by kernel_rfl, rfl⟩) hHeld ?_
          simp only [Act.put, List.setIfInBounds_toArray, List.set_cons_zero, List.set_cons_succ]
          refine takeD (i := 15) (d := some 44) (v := undef) rfl (by kernel_rfl) (by kernel_rfl) (by kernel_rfl) rfl (fun _ _ _ h => h) (Or.inr ⟨by kernel_rfl, rfl⟩) hHeld ?_
          simp only [Act.put, List.setIfInBounds_toArray, List.set_cons_zero, List.set_cons_succ]
          refine takeD (i := 16) (d := some 45) (v := (.bool true)) rfl (by kernel_rfl) (by kernel_rfl) (by kernel_rfl) rfl (fun _ _ _ h => h) (Or.inl ⟨by kernel_rfl, fun w9 hw => y_pick (b := true) rfl rfl rfl⟩) hHeld ?_
          simp only [Act.put, List.setIfInBounds_toArray, List.set_cons_zero, List.set_cons_succ]
          refine takeD (i := 17) (d := some 46) (v := (.bool true)) rfl (by kernel_rfl) (by kernel_rfl) (by kernel_rfl) rfl (fun _ _ _ h => h) (Or.inl ⟨by kernel_rfl, fun w9 hw => y_pick (b := true) rfl rfl rfl⟩) hHeld ?_
          simp only [Act.put, List.setIfInBounds_toArray, List.set_cons_zero, List.set_cons_succ]
          refine wpAnyH_done (by kernel_rfl) ?_ _
          gi_wp2_with (first
            | (refine wpListIn_load_mid (by rfl) 39 (.tmp 12) (by rfl) Bk 0 (by rfl) x.1.L _ (by exact HG.out.2.2.1) Try.underlying39 rfl (key_sizeG x.1.len) ?_)
            | (refine wpListIn_load_mid (by rfl) 56 (.tmp 13) (by rfl) (Bk + 1) 0 (by rfl) x.2.L _ (by exact HG.out.2.2.2.2) Try.underlying56 rfl (ent_sizeG x.2) ?_)
            | (refine wpListIn_yield (by rfl) (by rfl) (by rintro c hc; cases hc) (y_keyed (k := x.1) (e := x.2) rfl rfl rfl) ?_)
            | (refine wpListIn_store_mid rfl 58 (.tmp 8) (.tmp 49) (by rfl) (h0 + 3) 0 (x.1.L ++ x.2.L).toArray (by rfl) (by rfl) (by exact HTH.out) (by rw [List.size_toArray]; exact keyed_sizeG (by rw [List.length_append, Key.len, Ent.len])) (all_oneCell_toArray (kvL_ones (some x))) ?_
               obtain ⟨w2, hw2⟩ : ∃ w2, w2 = World.setCells X.drew (h0 + 3) 0 (x.1.L ++ x.2.L).toArray.toList := ⟨_, rfl⟩
               change wpListIn (Fence.wide.inRound l) _ Try.prog _ _ _ _ (World.setCells X.drew (h0 + 3) 0 (x.1.L ++ x.2.L).toArray.toList)
               rw [← hw2]
               have H2 := Lib.hid (HF3.out w2 hw2)
               have c4 := H2.out.1
               have f4 := H2.out.2.1
               clear hw2 HF3 HTH))
          rw [← H2.out.2.2]
          exact HTOOK.out (by unfold tst; rw [ha]; rfl)
        | some y =>
          by_cases c2 : Lib.compareBytes x.1.1 y.1.1 < 0
          · have d2 : decide (Lib.compareBytes x.1.1 y.1.1 < 0) = true := decide_eq_true c2
            gi_wp2_with fail
            refine region_in (S := fun w9 => w9 = X.drew) (by kernel_rfl) (by kernel_rfl) (fun ⟨a, w, h⟩ => h) rfl (fun hHeld => ?_)
            refine takeD (i := 0) (d := some 29) (v := (.bool true)) rfl (by kernel_rfl) (by kernel_rfl) (by kernel_rfl) rfl (fun _ _ _ h => h) (Or.inl ⟨by kernel_rfl, fun w9 hw => by rw [hw]; exact y_bool rfl rfl (hbn.cell 0) rfl⟩) hHeld ?_
            simp only [Act.put, List.setIfInBounds_toArray, List.set_cons_zero, List.set_cons_succ]
            refine takeD (i := 1) (d := some 30) (v := (.bool true)) rfl (by kernel_rfl) (by kernel_rfl) (by kernel_rfl) rfl (fun _ _ _ h => h) (Or.inl ⟨by kernel_rfl, fun w9 hw => y_move rfl rfl⟩) hHeld ?_
            simp only [Act.put, List.setIfInBounds_toArray, List.set_cons_zero, List.set_cons_succ]
            refine takeD (i := 2) (d := some 31) (v := undef) rfl (by kernel_rfl) (by kernel_rfl) (by kernel_rfl) rfl (fun _ _ _ h => h) (Or.inr ⟨by kernel_rfl, rfl⟩) hHeld ?_
            simp only [Act.put, List.setIfInBounds_toArray, List.set_cons_zero, List.set_cons_succ]
            refine takeD (i := 3) (d := some 32) (v := undef) rfl (by kernel_rfl) (by kernel_rfl) (by kernel_rfl) rfl (fun _ _ _ h => h) (Or.inr ⟨by kernel_rfl, rfl⟩) hHeld ?_
            simp only [Act.put, List.setIfInBounds_toArray, List.set_cons_zero, List.set_cons_succ]
            refine takeD (i := 4) (d := some 33) (v := undef) rfl (by kernel_rfl) (by kernel_rfl) (by kernel_rfl) rfl (fun _ _ _ h => h) (Or.inr ⟨by kernel_rfl, rfl⟩) hHeld ?_
            simp only [Act.put, List.setIfInBounds_toArray, List.set_cons_zero, List.set_cons_succ]
            refine takeD (i := 5) (d := some 34) (v := undef) rfl (by kernel_rfl) (by kernel_rfl) (by kernel_rfl) rfl (fun _ _ _ h => h) (Or.inr ⟨by kernel_rfl, rfl⟩) hHeld ?_
            simp only [Act.put, List.setIfInBounds_toArray, List.set_cons_zero, List.set_cons_succ]
            refine takeD (i := 6) (d := some 35) (v := (.bool true)) rfl (by kernel_rfl) (by kernel_rfl) (by kernel_rfl) rfl (fun _ _ _ h => h) (Or.inl ⟨by kernel_rfl, fun w9 hw => y_pick (b := true) rfl rfl rfl⟩) hHeld ?_
            simp only [Act.put, List.setIfInBounds_toArray, List.set_cons_zero, List.set_cons_succ]
            refine takeD (i := 7) (d := some 36) (v := (.bool true)) rfl (by kernel_rfl) (by kernel_rfl) (by kernel_rfl) rfl (fun _ _ _ h => h) (Or.inl ⟨by kernel_rfl, fun w9 hw => y_move rfl rfl⟩) hHeld ?_
            simp only [Act.put, List.setIfInBounds_toArray, List.set_cons_zero, List.set_cons_succ]
            refine takeD (i := 8) (d := some 37) (v := (.bool true)) rfl (by kernel_rfl) (by kernel_rfl) (by kernel_rfl) rfl (fun _ _ _ h => h) (Or.inl ⟨by kernel_rfl, fun w9 hw => by rw [hw]; exact y_bool rfl rfl (HG.out.2.1.cell 0) rfl⟩) hHeld ?_
            simp only [Act.put, List.setIfInBounds_toArray, List.set_cons_zero, List.set_cons_succ]
            refine takeD (i := 9) (d := some 38) (v := (.bool false)) rfl (by kernel_rfl) (by kernel_rfl) (by kernel_rfl) rfl (fun _ _ _ h => h) (Or.inl ⟨by kernel_rfl, fun w9 hw => y_not (b := true) rfl rfl⟩) hHeld ?_
            simp only [Act.put, List.setIfInBounds_toArray, List.set_cons_zero, List.set_cons_succ]
            refine takeD (i := 10) (d := some 39) (v := (.bool false)) rfl (by kernel_rfl) (by kernel_rfl) (by kernel_rfl) rfl (fun _ _ _ h => h) (Or.inl ⟨by kernel_rfl, fun w9 hw => y_move rfl rfl⟩) hHeld ?_
            simp only [Act.put, List.setIfInBounds_toArray, List.set_cons_zero, List.set_cons_succ]
            refine takeD (i := 11) (d := some 40) (v := (.slice (some ⟨Bk, 0, none⟩) 32 32)) rfl (by kernel_rfl) (by kernel_rfl) (by kernel_rfl) rfl (fun _ _ _ h => h) (Or.inl ⟨by kernel_rfl, fun w9 hw => y_slK rfl rfl⟩) hHeld ?_
            simp only [Act.put, List.setIfInBounds_toArray, List.set_cons_zero, List.set_cons_succ]
            refine takeD (i := 12) (d := some 41) (v := (.pointer (some ⟨(h0 + 3), 0, none⟩))) rfl (by kernel_rfl) (by kernel_rfl) (by kernel_rfl) rfl (fun _ _ _ h => h) (Or.inl ⟨by kernel_rfl, fun w9 hw => y_fk rfl rfl⟩) hHeld ?_
            simp only [Act.put, List.setIfInBounds_toArray, List.set_cons_zero, List.set_cons_succ]
            refine takeD (i := 13) (d := some 42) (v := (.slice (some ⟨(h0 + 3), 0, none⟩) 32 32)) rfl (by kernel_rfl) (by kernel_rfl) (by kernel_rfl) rfl (fun _ _ _ h => h) (Or.inl ⟨by kernel_rfl, fun w9 hw => y_slK rfl rfl⟩) hHeld ?_
            simp only [Act.put, List.setIfInBounds_toArray, List.set_cons_zero, List.set_cons_succ]
            refine readyD (i := 14) (d := some 43) rfl (by kernel_rfl) rfl (by kernel_rfl) fun K hK => ?_
            refine op_c2 (fun _ _ => rfl) rfl rfl rfl (compare_any HG.out.2.2.1 (keyed_key HG.out.1)) ?_
            rintro e w9 ⟨rfl, rfl⟩
            refine ⟨_, rfl, hK _ _ hHeld fun hHeld9 => ?_⟩
            clear hK K hHeld
            have hHeld := hHeld9
            clear hHeld9
            simp only [Act.put, List.setIfInBounds_toArray, List.set_cons_zero, List.set_cons_succ]
            refine takeD (i := 15) (d := some 44) (v := (.bool true)) rfl (by kernel_rfl) (by kernel_rfl) (by kernel_rfl) rfl (fun _ _ _ h => h) (Or.inl ⟨by kernel_rfl, fun w9 hw => y_lss d2 rfl rfl⟩) hHeld ?_
            simp only [Act.put, List.setIfInBounds_toArray, List.set_cons_zero, List.set_cons_succ]
            refine takeD (i := 16) (d := some 45) (v := (.bool true)) rfl (by kernel_rfl) (by kernel_rfl) (by kernel_rfl) rfl (fun _ _ _ h => h) (Or.inl ⟨by kernel_rfl, fun w9 hw => y_pick (b := false) rfl rfl rfl⟩) hHeld ?_
            simp only [Act.put, List.setIfInBounds_toArray, List.set_cons_zero, List.set_cons_succ]
            refine takeD (i := 17) (d := some 46) (v := (.bool true)) rfl (by kernel_rfl) (by kernel_rfl) (by kernel_rfl) rfl (fun _ _ _ h => h) (Or.inl ⟨by kernel_rfl, fun w9 hw => y_pick (b := true) rfl rfl rfl⟩) hHeld ?_
            simp only [Act.put, List.setIfInBounds_toArray, List.set_cons_zero, List.set_cons_succ]
            refine wpAnyH_done (by kernel_rfl) ?_ _
            gi_wp2_with (first
              | (refine wpListIn_load_mid (by rfl) 39 (.tmp 12) (by rfl) Bk 0 (by rfl) x.1.L _ (by exact HG.out.2.2.1) Try.underlying39 rfl (key_sizeG x.1.len) ?_)
              | (refine wpListIn_load_mid (by rfl) 56 (.tmp 13) (by rfl) (Bk + 1) 0 (by rfl) x.2.L _ (by exact HG.out.2.2.2.2) Try.underlying56 rfl (ent_sizeG x.2) ?_)
              | (refine wpListIn_yield (by rfl) (by rfl) (by rintro c hc; cases hc) (y_keyed (k := x.1) (e := x.2) rfl rfl rfl) ?_)
              | (refine wpListIn_store_mid rfl 58 (.tmp 8) (.tmp 49) (by rfl) (h0 + 3) 0 (x.1.L ++ x.2.L).toArray (by rfl) (by rfl) (by exact HTH.out) (by rw [List.size_toArray]; exact keyed_sizeG (by rw [List.length_append, Key.len, Ent.len])) (all_oneCell_toArray (kvL_ones (some x))) ?_
                 obtain ⟨w2, hw2⟩ : ∃ w2, w2 = World.setCells X.drew (h0 + 3) 0 (x.1.L ++ x.2.L).toArray.toList := ⟨_, rfl⟩
                 change wpListIn (Fence.wide.inRound l) _ Try.prog _ _ _ _ (World.setCells X.drew (h0 + 3) 0 (x.1.L ++ x.2.L).toArray.toList)
                 rw [← hw2]
                 have H2 := Lib.hid (HF3.out w2 hw2)
                 have c4 := H2.out.1
                 have f4 := H2.out.2.1
                 clear hw2 HF3 HTH))
            rw [← H2.out.2.2]
            exact HTOOK.out (by unfold tst; rw [ha]; exact d2)
          · have d2 : decide (Lib.compareBytes x.1.1 y.1.1 < 0) = false := decide_eq_false c2
            gi_wp2_with fail
            refine region_in (S := fun w9 => w9 = X.drew) (by kernel_rfl) (by kernel_rfl) (fun ⟨a, w, h⟩ => h) rfl (fun hHeld => ?_)
            refine takeD (i := 0) (d := some 29) (v := (.bool true)) rfl (by kernel_rfl) (by kernel_rfl) (by kernel_rfl) rfl (fun _ _ _ h => h) (Or.inl ⟨by kernel_rfl, fun w9 hw => by rw [hw]; exact y_bool rfl rfl (hbn.cell 0) rfl⟩) hHeld ?_
            simp only [Act.put, List.setIfInBounds_toArray, List.set_cons_zero, List.set_cons_succ]
            refine takeD (i := 1) (d := some 30) (v := (.bool true)) rfl (by kernel_rfl) (by kernel_rfl) (by kernel_rfl) rfl (fun _ _ _ h => h) (Or.inl ⟨by kernel_rfl, fun w9 hw => y_move rfl rfl⟩) hHeld ?_
            simp only [Act.put, List.setIfInBounds_toArray, List.set_cons_zero, List.set_cons_succ]
            refine takeD (i := 2) (d := some 31) (v := undef) rfl (by kernel_rfl) (by kernel_rfl) (by kernel_rfl) rfl (fun _ _ _ h => h) (Or.inr ⟨by kernel_rfl, rfl⟩) hHeld ?_
            simp only [Act.put, List.setIfInBounds_toArray, List.set_cons_zero, List.set_cons_succ]
            refine takeD (i := 3) (d := some 32) (v := undef) rfl (by kernel_rfl) (by kernel_rfl) (by kernel_rfl) rfl (fun _ _ _ h => h) (Or.inr ⟨by kernel_rfl, rfl⟩) hHeld ?_
            simp only [Act.put, List.setIfInBounds_toArray, List.set_cons_zero, List.set_cons_succ]
            refine takeD (i := 4) (d := some 33) (v := undef) rfl (by kernel_rfl) (by kernel_rfl) (by kernel_rfl) rfl (fun _ _ _ h => h) (Or.inr ⟨by kernel_rfl, rfl⟩) hHeld ?_
            simp only [Act.put, List.setIfInBounds_toArray, List.set_cons_zero, List.set_cons_succ]
            refine takeD (i := 5) (d := some 34) (v := undef) rfl (by kernel_rfl) (by kernel_rfl) (by kernel_rfl) rfl (fun _ _ _ h => h) (Or.inr ⟨by kernel_rfl, rfl⟩) hHeld ?_
            simp only [Act.put, List.setIfInBounds_toArray, List.set_cons_zero, List.set_cons_succ]
            refine takeD (i := 6) (d := some 35) (v := (.bool true)) rfl (by kernel_rfl) (by kernel_rfl) (by kernel_rfl) rfl (fun _ _ _ h => h) (Or.inl ⟨by kernel_rfl, fun w9 hw => y_pick (b := true) rfl rfl rfl⟩) hHeld ?_
            simp only [Act.put, List.setIfInBounds_toArray, List.set_cons_zero, List.set_cons_succ]
            refine takeD (i := 7) (d := some 36) (v := (.bool true)) rfl (by kernel_rfl) (by kernel_rfl) (by kernel_rfl) rfl (fun _ _ _ h => h) (Or.inl ⟨by kernel_rfl, fun w9 hw => y_move rfl rfl⟩) hHeld ?_
            simp only [Act.put, List.setIfInBounds_toArray, List.set_cons_zero, List.set_cons_succ]
            refine takeD (i := 8) (d := some 37) (v := (.bool true)) rfl (by kernel_rfl) (by kernel_rfl) (by kernel_rfl) rfl (fun _ _ _ h => h) (Or.inl ⟨by kernel_rfl, fun w9 hw => by rw [hw]; exact y_bool rfl rfl (HG.out.2.1.cell 0) rfl⟩) hHeld ?_
            simp only [Act.put, List.setIfInBounds_toArray, List.set_cons_zero, List.set_cons_succ]
            refine takeD (i := 9) (d := some 38) (v := (.bool false)) rfl (by kernel_rfl) (by kernel_rfl) (by kernel_rfl) rfl (fun _ _ _ h => h) (Or.inl ⟨by kernel_rfl, fun w9 hw => y_not (b := true) rfl rfl⟩) hHeld ?_
            simp only [Act.put, List.setIfInBounds_toArray, List.set_cons_zero, List.set_cons_succ]
            refine takeD (i := 10) (d := some 39) (v := (.bool false)) rfl (by kernel_rfl) (by kernel_rfl) (by kernel_rfl) rfl (fun _ _ _ h => h) (Or.inl ⟨by kernel_rfl, fun w9 hw => y_move rfl rfl⟩) hHeld ?_
            simp only [Act.put, List.setIfInBounds_toArray, List.set_cons_zero, List.set_cons_succ]
            refine takeD (i := 11) (d := some 40) (v := (.slice (some ⟨Bk, 0, none⟩) 32 32)) rfl (by kernel_rfl) (by kernel_rfl) (by kernel_rfl) rfl (fun _ _ _ h => h) (Or.inl ⟨by kernel_rfl, fun w9 hw => y_slK rfl rfl⟩) hHeld ?_
            simp only [Act.put, List.setIfInBounds_toArray, List.set_cons_zero, List.set_cons_succ]
            refine takeD (i := 12) (d := some 41) (v := (.pointer (some ⟨(h0 + 3), 0, none⟩))) rfl (by kernel_rfl) (by kernel_rfl) (by kernel_rfl) rfl (fun _ _ _ h => h) (Or.inl ⟨by kernel_rfl, fun w9 hw => y_fk rfl rfl⟩) hHeld ?_
            simp only [Act.put, List.setIfInBounds_toArray, List.set_cons_zero, List.set_cons_succ]
            refine takeD (i := 13) (d := some 42) (v := (.slice (some ⟨(h0 + 3), 0, none⟩) 32 32)) rfl (by kernel_rfl) (by kernel_rfl) (by kernel_rfl) rfl (fun _ _ _ h => h) (Or.inl ⟨by kernel_rfl, fun w9 hw => y_slK rfl rfl⟩) hHeld ?_
            simp only [Act.put, List.setIfInBounds_toArray, List.set_cons_zero, List.set_cons_succ]
            refine readyD (i := 14) (d := some 43) rfl (by kernel_rfl) rfl (by kernel_rfl) fun K hK => ?_
            refine op_c2 (fun _ _ => rfl) rfl rfl rfl (compare_any HG.out.2.2.1 (keyed_key HG.out.1)) ?_
            rintro e w9 ⟨rfl, rfl⟩
            refine ⟨_, rfl, hK _ _ hHeld fun hHeld9 => ?_⟩
            clear hK K hHeld
            have hHeld := hHeld9
            clear hHeld9
            simp only [Act.put, List.setIfInBounds_toArray, List.set_cons_zero, List.set_cons_succ]
            refine takeD (i := 15) (d := some 44) (v := (.bool false)) rfl (by kernel_rfl) (by kernel_rfl) (by kernel_rfl) rfl (fun _ _ _ h => h) (Or.inl ⟨by kernel_rfl, fun w9 hw => y_lss d2 rfl rfl⟩) hHeld ?_
            simp only [Act.put, List.setIfInBounds_toArray, List.set_cons_zero, List.set_cons_succ]
            refine takeD (i := 16) (d := some 45) (v := (.bool false)) rfl (by kernel_rfl) (by kernel_rfl) (by kernel_rfl) rfl (fun _ _ _ h => h) (Or.inl ⟨by kernel_rfl, fun w9 hw => y_pick (b := false) rfl rfl rfl⟩) hHeld ?_
            simp only [Act.put, List.setIfInBounds_toArray, List.set_cons_zero, List.set_cons_succ]
            refine takeD (i := 17) (d := some 46) (v := (.bool false)) rfl (by kernel_rfl) (by kernel_rfl) (by kernel_rfl) rfl (fun _ _ _ h => h) (Or.inl ⟨by kernel_rfl, fun w9 hw => y_pick (b := true) rfl rfl rfl⟩) hHeld ?_
            simp only [Act.put, List.setIfInBounds_toArray, List.set_cons_zero, List.set_cons_succ]
            refine wpAnyH_done (by kernel_rfl) ?_ _
            gi_wp2_with fail
            exact HKEEP.out (by unfold tst; rw [ha]; show ¬ decide (Lib.compareBytes x.1.1 y.1.1 < 0) = true; rw [d2]; simp)
      | false =>
        by_cases c1 : Lib.compareBytes x.1.1 after.1 > 0
        · have d1 : decide (Lib.compareBytes x.1.1 after.1 > 0) = true := decide_eq_true c1
          have ha : asked false after x.1 = true := by unfold asked; rw [d1]; rfl
          cases b with
          | none =>
            gi_wp2_with fail
            refine region_in (S := fun w9 => w9 = X.drew) (by kernel_rfl) (by kernel_rfl) (fun ⟨a, w, h⟩ => h) rfl (fun hHeld => ?_)
            refine takeD (i := 0) (d := some 29) (v := (.bool false)) rfl (by kernel_rfl) (by kernel_rfl) (by kernel_rfl) rfl (fun _ _ _ h => h) (Or.inl ⟨by kernel_rfl, fun w9 hw => by rw [hw]; exact y_bool rfl rfl (hbn.cell 0) rfl⟩) hHeld ?_
            simp only [Act.put, List.setIfInBounds_toArray, List.set_cons_zero, List.set_cons_succ]
            refine takeD (i := 1) (d := some 30) (v := (.bool false)) rfl (by kernel_rfl) (by kernel_rfl) (by kernel_rfl) rfl (fun _ _ _ h => h) (Or.inl ⟨by kernel_rfl, fun w9 hw => y_move rfl rfl⟩) hHeld ?_
            simp only [Act.put, List.setIfInBounds_toArray, List.set_cons_zero, List.set_cons_succ]
            refine takeD (i := 2) (d := some 31) (v := (.slice (some ⟨Bk, 0, none⟩) 32 32)) rfl (by kernel_rfl) (by kernel_rfl) (by kernel_rfl) rfl (fun _ _ _ h => h) (Or.inl ⟨by kernel_rfl, fun w9 hw => y_slK rfl rfl⟩) hHeld ?_
            simp only [Act.put, List.setIfInBounds_toArray, List.set_cons_zero, List.set_cons_succ]
            refine takeD (i := 3) (d := some 32) (v := (.slice (some ⟨h0, 0, none⟩) 32 32)) rfl (by kernel_rfl) (by kernel_rfl) (by kernel_rfl) rfl (fun _ _ _ h => h) (Or.inl ⟨by kernel_rfl, fun w9 hw => y_slK rfl rfl⟩) hHeld ?_
            simp only [Act.put, List.setIfInBounds_toArray, List.set_cons_zero, List.set_cons_succ]
            refine readyD (i := 4) (d := some 33) rfl (by kernel_rfl) rfl (by kernel_rfl) fun K hK => ?_
            refine op_c2 (fun _ _ => rfl) rfl rfl rfl (compare_any HG.out.2.2.1 HG.out.2.2.2.1) ?_
            rintro e w9 ⟨rfl, rfl⟩
            refine ⟨_, rfl, hK _ _ hHeld fun hHeld9 => ?_⟩
            clear hK K hHeld
            have hHeld := hHeld9
            clear hHeld9
            simp only [Act.put, List.setIfInBounds_toArray, List.set_cons_zero, List.set_cons_succ]
            refine takeD (i := 5) (d := some 34) (v := (.bool true)) rfl (by kernel_rfl) (by kernel_rfl) (by kernel_rfl) rfl (fun _ _ _ h => h) (Or.inl ⟨by kernel_rfl, fun w9 hw => y_gtr d1 rfl rfl⟩) hHeld ?_
            simp only [Act.put, List.setIfInBounds_toArray, List.set_cons_zero, List.set_cons_succ]
            refine takeD (i := 6) (d := some 35) (v := (.bool true)) rfl (by kernel_rfl) (by kernel_rfl) (by kernel_rfl) rfl (fun _ _ _ h => h) (Or.inl ⟨by kernel_rfl, fun w9 hw => y_pick (b := false) rfl rfl rfl⟩) hHeld ?_
            simp only [Act.put, List.setIfInBounds_toArray, List.set_cons_zero, List.set_cons_succ]
            refine takeD (i := 7) (d := some 36) (v := (.bool true)) rfl (by kernel_rfl) (by kernel_rfl) (by kernel_rfl) rfl (fun _ _ _ h => h) (Or.inl ⟨by kernel_rfl, fun w9 hw => y_move rfl rfl⟩) hHeld ?_
            simp only [Act.put, List.setIfInBounds_toArray, List.set_cons_zero, List.set_cons_succ]
            refine takeD (i := 8) (d := some 37) (v := (.bool false)) rfl (by kernel_rfl) (by kernel_rfl) (by kernel_rfl) rfl (fun _ _ _ h => h) (Or.inl ⟨by kernel_rfl, fun w9 hw => by rw [hw]; exact y_bool rfl rfl (HG.out.2.1.cell 0) rfl⟩) hHeld ?_
            simp only [Act.put, List.setIfInBounds_toArray, List.set_cons_zero, List.set_cons_succ]
            refine takeD (i := 9) (d := some 38) (v := (.bool true)) rfl (by kernel_rfl) (by kernel_rfl) (by kernel_rfl) rfl (fun _ _ _ h => h) (Or.inl ⟨by kernel_rfl, fun w9 hw => y_not (b := false) rfl rfl⟩) hHeld ?_
            simp only [Act.put, List.setIfInBounds_toArray, List.set_cons_zero, List.set_cons_succ]
            refine takeD (i := 10) (d := some 39) (v := (.bool true)) rfl (by kernel_rfl) (by kernel_rfl) (by kernel_rfl) rfl (fun _ _ _ h => h) (Or.inl ⟨by kernel_rfl, fun w9 hw => y_move rfl rfl⟩) hHeld ?_
            simp only [Act.put, List.setIfInBounds_toArray, List.set_cons_zero, List.set_cons_succ]
            refine takeD (i := 11) (d := some 40) (v := undef) rfl (by kernel_rfl) (by kernel_rfl) (by kernel_rfl) rfl (fun _ _ _ h => h) (Or.inr ⟨by kernel_rfl, rfl⟩) hHeld ?_
            simp only [Act.put, List.setIfInBounds_toArray, List.set_cons_zero, List.set_cons_succ]
            refine takeD (i := 12) (d := some 41) (v := undef) rfl (by kernel_rfl) (by kernel_rfl) (by kernel_rfl) rfl (fun _ _ _ h => h) (Or.inr ⟨by kernel_rfl, rfl⟩) hHeld ?_
            simp only [Act.put, List.setIfInBounds_toArray, List.set_cons_zero, List.set_cons_succ]
            refine takeD (i := 13) (d := some 42) (v := undef) rfl (by kernel_rfl) (by kernel_rfl) (by kernel_rfl) rfl (fun _ _ _ h => h) (Or.inr ⟨by kernel_rfl, rfl⟩) hHeld ?_
            simp only [Act.put, List.setIfInBounds_toArray, List.set_cons_zero, List.set_cons_succ]
            refine takeD (i := 14) (d := some 43) (v := undef) rfl (by kernel_rfl) (by kernel_rfl) (by kernel_rfl) rfl (fun _ _ _ h => h) (Or.inr ⟨by kernel_rfl, rfl⟩) hHeld ?_
            simp only [Act.put, List.setIfInBounds_toArray, List.set_cons_zero, List.set_cons_succ]
            refine takeD (i := 15) (d := some 44) (v := undef) rfl (by kernel_rfl) (by kernel_rfl) (by kernel_rfl) rfl (fun _ _ _ h => h) (Or.inr ⟨by kernel_rfl, rfl⟩) hHeld ?_
            simp only [Act.put, List.setIfInBounds_toArray, List.set_cons_zero, List.set_cons_succ]
            refine takeD (i := 16) (d := some 45) (v := (.bool true)) rfl (by kernel_rfl) (by kernel_rfl) (by kernel_rfl) rfl (fun _ _ _ h => h) (Or.inl ⟨by kernel_rfl, fun w9 hw => y_pick (b := true) rfl rfl rfl⟩) hHeld ?_
            simp only [Act.put, List.setIfInBounds_toArray, List.set_cons_zero, List.set_cons_succ]
            refine takeD (i := 17) (d := some 46) (v := (.bool true)) rfl (by kernel_rfl) (by kernel_rfl) (by kernel_rfl) rfl (fun _ _ _ h => h) (Or.inl ⟨by kernel_rfl, fun w9 hw => y_pick (b := true) rfl rfl rfl⟩) hHeld ?_
            simp only [Act.put, List.setIfInBounds_toArray, List.set_cons_zero, List.set_cons_succ]
            refine wpAnyH_done (by kernel_rfl) ?_ _
            gi_wp2_with (first
              | (refine wpListIn_load_mid (by rfl) 39 (.tmp 12) (by rfl) Bk 0 (by rfl) x.1.L _ (by exact HG.out.2.2.1) Try.underlying39 rfl (key_sizeG x.1.len) ?_)
              | (refine wpListIn_load_mid (by rfl) 56 (.tmp 13) (by rfl) (Bk + 1) 0 (by rfl) x.2.L _ (by exact HG.out.2.2.2.2) Try.underlying56 rfl (ent_sizeG x.2) ?_)
              | (refine wpListIn_yield (by rfl) (by rfl) (by rintro c hc; cases hc) (y_keyed (k := x.1) (e := x.2) rfl rfl rfl) ?_)
              | (refine wpListIn_store_mid rfl 58 (.tmp 8) (.tmp 49) (by rfl) (h0 + 3) 0 (x.1.L ++ x.2.L).toArray (by rfl) (by rfl) (by exact HTH.out) (by rw [List.size_toArray]; exact keyed_sizeG (by rw [List.length_append, Key.len, Ent.len])) (all_oneCell_toArray (kvL_ones (some x))) ?_
                 obtain ⟨w2, hw2⟩ : ∃ w2, w2 = World.setCells X.drew (h0 + 3) 0 (x.1.L ++ x.2.L).toArray.toList := ⟨_, rfl⟩
                 change wpListIn (Fence.wide.inRound l) _ Try.prog _ _ _ _ (World.setCells X.drew (h0 + 3) 0 (x.1.L ++ x.2.L).toArray.toList)
                 rw [← hw2]
                 have H2 := Lib.hid (HF3.out w2 hw2)
                 have c4 := H2.out.1
                 have f4 := H2.out.2.1
                 clear hw2 HF3 HTH))
            rw [← H2.out.2.2]
            exact HTOOK.out (by unfold tst; rw [ha]; rfl)
          | some y =>
            by_cases c2 : Lib.compareBytes x.1.1 y.1.1 < 0
            · have d2 : decide (Lib.compareBytes x.1.1 y.1.1 < 0) = true := decide_eq_true c2
              gi_wp2_with fail
              refine region_in (S := fun w9 => w9 = X.drew) (by kernel_rfl) (by kernel_rfl) (fun ⟨a, w, h⟩ => h) rfl (fun hHeld => ?_)
              refine takeD (i := 0) (d := some 29) (v := (.bool false)) rfl (by kernel_rfl) (by kernel_rfl) (by kernel_rfl) rfl (fun _ _ _ h => h) (Or.inl ⟨by kernel_rfl, fun w9 hw => by rw [hw]; exact y_bool rfl rfl (hbn.cell 0) rfl⟩) hHeld ?_
              simp only [Act.put, List.setIfInBounds_toArray, List.set_cons_zero, List.set_cons_succ]
              refine takeD (i := 1) (d := some 30) (v := (.bool false)) rfl (by kernel_rfl) (by kernel_rfl) (by kernel_rfl) rfl (fun _ _ _ h => h) (Or.inl ⟨by kernel_rfl, fun w9 hw => y_move rfl rfl⟩) hHeld ?_
              simp only [Act.put, List.setIfInBounds_toArray, List.set_cons_zero, List.set_cons_succ]
              refine takeD (i := 2) (d := some 31) (v := (.slice (some ⟨Bk, 0, none⟩) 32 32)) rfl (by kernel_rfl) (by kernel_rfl) (by kernel_rfl) rfl (fun _ _ _ h => h) (Or.inl ⟨by kernel_rfl, fun w9 hw => y_slK rfl rfl⟩) hHeld ?_
              simp only [Act.put, List.setIfInBounds_toArray, List.set_cons_zero, List.set_cons_succ]
              refine takeD (i := 3) (d := some 32) (v := (.slice (some ⟨h0, 0, none⟩) 32 32)) rfl (by kernel_rfl) (by kernel_rfl) (by kernel_rfl) rfl (fun _ _ _ h => h) (Or.inl ⟨by kernel_rfl, fun w9 hw => y_slK rfl rfl⟩) hHeld ?_
              simp only [Act.put, List.setIfInBounds_toArray, List.set_cons_zero, List.set_cons_succ]
              refine readyD (i := 4) (d := some 33) rfl (by kernel_rfl) rfl (by kernel_rfl) fun K hK => ?_
              refine op_c2 (fun _ _ => rfl) rfl rfl rfl (compare_any HG.out.2.2.1 HG.out.2.2.2.1) ?_
              rintro e w9 ⟨rfl, rfl⟩
              refine ⟨_, rfl, hK _ _ hHeld fun hHeld9 => ?_⟩
              clear hK K hHeld
              have hHeld := hHeld9
              clear hHeld9
              simp only [Act.put, List.setIfInBounds_toArray, List.set_cons_zero, List.set_cons_succ]
              refine takeD (i := 5) (d := some 34) (v := (.bool true)) rfl (by kernel_rfl) (by kernel_rfl) (by kernel_rfl) rfl (fun _ _ _ h => h) (Or.inl ⟨by kernel_rfl, fun w9 hw => y_gtr d1 rfl rfl⟩) hHeld ?_
              simp only [Act.put, List.setIfInBounds_toArray, List.set_cons_zero, List.set_cons_succ]
              refine takeD (i := 6) (d := some 35) (v := (.bool true)) rfl (by kernel_rfl) (by kernel_rfl) (by kernel_rfl) rfl (fun _ _ _ h => h) (Or.inl ⟨by kernel_rfl, fun w9 hw => y_pick (b := false) rfl rfl rfl⟩) hHeld ?_
              simp only [Act.put, List.setIfInBounds_toArray, List.set_cons_zero, List.set_cons_succ]
              refine takeD (i := 7) (d := some 36) (v := (.bool true)) rfl (by kernel_rfl) (by kernel_rfl) (by kernel_rfl) rfl (fun _ _ _ h => h) (Or.inl ⟨by kernel_rfl, fun w9 hw => y_move rfl rfl⟩) hHeld ?_
              simp only [Act.put, List.setIfInBounds_toArray, List.set_cons_zero, List.set_cons_succ]
              refine takeD (i := 8) (d := some 37) (v := (.bool true)) rfl (by kernel_rfl) (by kernel_rfl) (by kernel_rfl) rfl (fun _ _ _ h => h) (Or.inl ⟨by kernel_rfl, fun w9 hw => by rw [hw]; exact y_bool rfl rfl (HG.out.2.1.cell 0) rfl⟩) hHeld ?_
              simp only [Act.put, List.setIfInBounds_toArray, List.set_cons_zero, List.set_cons_succ]
              refine takeD (i := 9) (d := some 38) (v := (.bool false)) rfl (by kernel_rfl) (by kernel_rfl) (by kernel_rfl) rfl (fun _ _ _ h => h) (Or.inl ⟨by kernel_rfl, fun w9 hw => y_not (b := true) rfl rfl⟩) hHeld ?_
              simp only [Act.put, List.setIfInBounds_toArray, List.set_cons_zero, List.set_cons_succ]
              refine takeD (i := 10) (d := some 39) (v := (.bool false)) rfl (by kernel_rfl) (by kernel_rfl) (by kernel_rfl) rfl (fun _ _ _ h => h) (Or.inl ⟨by kernel_rfl, fun w9 hw => y_move rfl rfl⟩) hHeld ?_
              simp only [Act.put, List.setIfInBounds_toArray, List.set_cons_zero, List.set_cons_succ]
              refine takeD (i := 11) (d := some 40) (v := (.slice (some ⟨Bk, 0, none⟩) 32 32)) rfl (by kernel_rfl) (by kernel_rfl) (by kernel_rfl) rfl (fun _ _ _ h => h) (Or.inl ⟨by kernel_rfl, fun w9 hw => y_slK rfl rfl⟩) hHeld ?_
              simp only [Act.put, List.setIfInBounds_toArray, List.set_cons_zero, List.set_cons_succ]
              refine takeD (i := 12) (d := some 41) (v := (.pointer (some ⟨(h0 + 3), 0, none⟩))) rfl (by kernel_rfl) (by kernel_rfl) (by kernel_rfl) rfl (fun _ _ _ h => h) (Or.inl ⟨by kernel_rfl, fun w9 hw => y_fk rfl rfl⟩) hHeld ?_
              simp only [Act.put, List.setIfInBounds_toArray, List.set_cons_zero, List.set_cons_succ]
              refine takeD (i := 13) (d := some 42) (v := (.slice (some ⟨(h0 + 3), 0, none⟩) 32 32)) rfl (by kernel_rfl) (by kernel_rfl) (by kernel_rfl) rfl (fun _ _ _ h => h) (Or.inl ⟨by kernel_rfl, fun w9 hw => y_slK rfl rfl⟩) hHeld ?_
              simp only [Act.put, List.setIfInBounds_toArray, List.set_cons_zero, List.set_cons_succ]
              refine readyD (i := 14) (d := some 43) rfl (by kernel_rfl) rfl (by kernel_rfl) fun K hK => ?_
              refine op_c2 (fun _ _ => rfl) rfl rfl rfl (compare_any HG.out.2.2.1 (keyed_key HG.out.1)) ?_
              rintro e w9 ⟨rfl, rfl⟩
              refine ⟨_, rfl, hK _ _ hHeld fun hHeld9 => ?_⟩
              clear hK K hHeld
              have hHeld := hHeld9
              clear hHeld9
              simp only [Act.put, List.setIfInBounds_toArray, List.set_cons_zero, List.set_cons_succ]
              refine takeD (i := 15) (d := some 44) (v := (.bool true)) rfl (by kernel_rfl) (by kernel_rfl) (by kernel_rfl) rfl (fun _ _ _ h => h) (Or.inl ⟨by kernel_rfl, fun w9 hw => y_lss d2 rfl rfl⟩) hHeld ?_
              simp only [Act.put, List.setIfInBounds_toArray, List.set_cons_zero, List.set_cons_succ]
              refine takeD (i := 16) (d := some 45) (v := (.bool true)) rfl (by kernel_rfl) (by kernel_rfl) (by kernel_rfl) rfl (fun _ _ _ h => h) (Or.inl ⟨by kernel_rfl, fun w9 hw => y_pick (b := false) rfl rfl rfl⟩) hHeld ?_
              simp only [Act.put, List.setIfInBounds_toArray, List.set_cons_zero, List.set_cons_succ]
              refine takeD (i := 17) (d := some 46) (v := (.bool true)) rfl (by kernel_rfl) (by kernel_rfl) (by kernel_rfl) rfl (fun _ _ _ h => h) (Or.inl ⟨by kernel_rfl, fun w9 hw => y_pick (b := true) rfl rfl rfl⟩) hHeld ?_
              simp only [Act.put, List.setIfInBounds_toArray, List.set_cons_zero, List.set_cons_succ]
              refine wpAnyH_done (by kernel_rfl) ?_ _
              gi_wp2_with (first
                | (refine wpListIn_load_mid (by rfl) 39 (.tmp 12) (by rfl) Bk 0 (by rfl) x.1.L _ (by exact HG.out.2.2.1) Try.underlying39 rfl (key_sizeG x.1.len) ?_)
                | (refine wpListIn_load_mid (by rfl) 56 (.tmp 13) (by rfl) (Bk + 1) 0 (by rfl) x.2.L _ (by exact HG.out.2.2.2.2) Try.underlying56 rfl (ent_sizeG x.2) ?_)
                | (refine wpListIn_yield (by rfl) (by rfl) (by rintro c hc; cases hc) (y_keyed (k := x.1) (e := x.2) rfl rfl rfl) ?_)
                | (refine wpListIn_store_mid rfl 58 (.tmp 8) (.tmp 49) (by rfl) (h0 + 3) 0 (x.1.L ++ x.2.L).toArray (by rfl) (by rfl) (by exact HTH.out) (by rw [List.size_toArray]; exact keyed_sizeG (by rw [List.length_append, Key.len, Ent.len])) (all_oneCell_toArray (kvL_ones (some x))) ?_
                   obtain ⟨w2, hw2⟩ : ∃ w2, w2 = World.setCells X.drew (h0 + 3) 0 (x.1.L ++ x.2.L).toArray.toList := ⟨_, rfl⟩
                   change wpListIn (Fence.wide.inRound l) _ Try.prog _ _ _ _ (World.setCells X.drew (h0 + 3) 0 (x.1.L ++ x.2.L).toArray.toList)
                   rw [← hw2]
                   have H2 := Lib.hid (HF3.out w2 hw2)
                   have c4 := H2.out.1
                   have f4 := H2.out.2.1
                   clear hw2 HF3 HTH))
              rw [← H2.out.2.2]
              exact HTOOK.out (by unfold tst; rw [ha]; exact d2)
            · have d2 : decide (Lib.compareBytes x.1.1 y.1.1 < 0) = false := decide_eq_false c2
              gi_wp2_with fail
              refine region_in (S := fun w9 => w9 = X.drew) (by kernel_rfl) (by kernel_rfl) (fun ⟨a, w, h⟩ => h) rfl (fun hHeld => ?_)
              refine takeD (i := 0) (d := some 29) (v := (.bool false)) rfl (by kernel_rfl) (by kernel_rfl) (by kernel_rfl) rfl (fun _ _ _ h => h) (Or.inl ⟨by kernel_rfl, fun w9 hw => by rw [hw]; exact y_bool rfl rfl (hbn.cell 0) rfl⟩) hHeld ?_
              simp only [Act.put, List.setIfInBounds_toArray, List.set_cons_zero, List.set_cons_succ]
              refine takeD (i := 1) (d := some 30) (v := (.bool false)) rfl (by kernel_rfl) (by kernel_rfl) (by kernel_rfl) rfl (fun _ _ _ h => h) (Or.inl ⟨by kernel_rfl, fun w9 hw => y_move rfl rfl⟩) hHeld ?_
              simp only [Act.put, List.setIfInBounds_toArray, List.set_cons_zero, List.set_cons_succ]
              refine takeD (i := 2) (d := some 31) (v := (.slice (some ⟨Bk, 0, none⟩) 32 32)) rfl (by kernel_rfl) (by kernel_rfl) (by kernel_rfl) rfl (fun _ _ _ h => h) (Or.inl ⟨by kernel_rfl, fun w9 hw => y_slK rfl rfl⟩) hHeld ?_
              simp only [Act.put, List.setIfInBounds_toArray, List.set_cons_zero, List.set_cons_succ]
              refine takeD (i := 3) (d := some 32) (v := (.slice (some ⟨h0, 0, none⟩) 32 32)) rfl (by kernel_rfl) (by kernel_rfl) (by kernel_rfl) rfl (fun _ _ _ h => h) (Or.inl ⟨by kernel_rfl, fun w9 hw => y_slK rfl rfl⟩) hHeld ?_
              simp only [Act.put, List.setIfInBounds_toArray, List.set_cons_zero, List.set_cons_succ]
              refine readyD (i := 4) (d := some 33) rfl (by kernel_rfl) rfl (by kernel_rfl) fun K hK => ?_
              refine op_c2 (fun _ _ => rfl) rfl rfl rfl (compare_any HG.out.2.2.1 HG.out.2.2.2.1) ?_
              rintro e w9 ⟨rfl, rfl⟩
              refine ⟨_, rfl, hK _ _ hHeld fun hHeld9 => ?_⟩
              clear hK K hHeld
              have hHeld := hHeld9
              clear hHeld9
              simp only [Act.put, List.setIfInBounds_toArray, List.set_cons_zero, List.set_cons_succ]
              refine takeD (i := 5) (d := some 34) (v := (.bool true)) rfl (by kernel_rfl) (by kernel_rfl) (by kernel_rfl) rfl (fun _ _ _ h => h) (Or.inl ⟨by kernel_rfl, fun w9 hw => y_gtr d1 rfl rfl⟩) hHeld ?_
              simp only [Act.put, List.setIfInBounds_toArray, List.set_cons_zero, List.set_cons_succ]
              refine takeD (i := 6) (d := some 35) (v := (.bool true)) rfl (by kernel_rfl) (by kernel_rfl) (by kernel_rfl) rfl (fun _ _ _ h => h) (Or.inl ⟨by kernel_rfl, fun w9 hw => y_pick (b := false) rfl rfl rfl⟩) hHeld ?_
              simp only [Act.put, List.setIfInBounds_toArray, List.set_cons_zero, List.set_cons_succ]
              refine takeD (i := 7) (d := some 36) (v := (.bool true)) rfl (by kernel_rfl) (by kernel_rfl) (by kernel_rfl) rfl (fun _ _ _ h => h) (Or.inl ⟨by kernel_rfl, fun w9 hw => y_move rfl rfl⟩) hHeld ?_
              simp only [Act.put, List.setIfInBounds_toArray, List.set_cons_zero, List.set_cons_succ]
              refine takeD (i := 8) (d := some 37) (v := (.bool true)) rfl (by kernel_rfl) (by kernel_rfl) (by kernel_rfl) rfl (fun _ _ _ h => h) (Or.inl ⟨by kernel_rfl, fun w9 hw => by rw [hw]; exact y_bool rfl rfl (HG.out.2.1.cell 0) rfl⟩) hHeld ?_
              simp only [Act.put, List.setIfInBounds_toArray, List.set_cons_zero, List.set_cons_succ]
              refine takeD (i := 9) (d := some 38) (v := (.bool false)) rfl (by kernel_rfl) (by kernel_rfl) (by kernel_rfl) rfl (fun _ _ _ h => h) (Or.inl ⟨by kernel_rfl, fun w9 hw => y_not (b := true) rfl rfl⟩) hHeld ?_
              simp only [Act.put, List.setIfInBounds_toArray, List.set_cons_zero, List.set_cons_succ]
              refine takeD (i := 10) (d := some 39) (v := (.bool false)) rfl (by kernel_rfl) (by kernel_rfl) (by kernel_rfl) rfl (fun _ _ _ h => h) (Or.inl ⟨by kernel_rfl, fun w9 hw => y_move rfl rfl⟩) hHeld ?_
              simp only [Act.put, List.setIfInBounds_toArray, List.set_cons_zero, List.set_cons_succ]
              refine takeD (i := 11) (d := some 40) (v := (.slice (some ⟨Bk, 0, none⟩) 32 32)) rfl (by kernel_rfl) (by kernel_rfl) (by kernel_rfl) rfl (fun _ _ _ h => h) (Or.inl ⟨by kernel_rfl, fun w9 hw => y_slK rfl rfl⟩) hHeld ?_
              simp only [Act.put, List.setIfInBounds_toArray, List.set_cons_zero, List.set_cons_succ]
              refine takeD (i := 12) (d := some 41) (v := (.pointer (some ⟨(h0 + 3), 0, none⟩))) rfl (by kernel_rfl) (by kernel_rfl) (by kernel_rfl) rfl (fun _ _ _ h => h) (Or.inl ⟨by kernel_rfl, fun w9 hw => y_fk rfl rfl⟩) hHeld ?_
              simp only [Act.put, List.setIfInBounds_toArray, List.set_cons_zero, List.set_cons_succ]
              refine takeD (i := 13) (d := some 42) (v := (.slice (some ⟨(h0 + 3), 0, none⟩) 32 32)) rfl (by kernel_rfl) (by kernel_rfl) (by kernel_rfl) rfl (fun _ _ _ h => h) (Or.inl ⟨by kernel_rfl, fun w9 hw => y_slK rfl rfl⟩) hHeld ?_
              simp only [Act.put, List.setIfInBounds_toArray, List.set_cons_zero, List.set_cons_succ]
              refine readyD (i := 14) (d := some 43) rfl (by kernel_rfl) rfl (by kernel_rfl) fun K hK => ?_
              refine op_c2 (fun _ _ => rfl) rfl rfl rfl (compare_any HG.out.2.2.1 (keyed_key HG.out.1)) ?_
              rintro e w9 ⟨rfl, rfl⟩
              refine ⟨_, rfl, hK _ _ hHeld fun hHeld9 => ?_⟩
              clear hK K hHeld
              have hHeld := hHeld9
              clear hHeld9
              simp only [Act.put, List.setIfInBounds_toArray, List.set_cons_zero, List.set_cons_succ]
              refine takeD (i := 15) (d := some 44) (v := (.bool false)) rfl (by kernel_rfl) (by kernel_rfl) (by kernel_rfl) rfl (fun _ _ _ h => h) (Or.inl ⟨by kernel_rfl, fun w9 hw => y_lss d2 rfl rfl⟩) hHeld ?_
              simp only [Act.put, List.setIfInBounds_toArray, List.set_cons_zero, List.set_cons_succ]
              refine takeD (i := 16) (d := some 45) (v := (.bool false)) rfl (by kernel_rfl) (by kernel_rfl) (by kernel_rfl) rfl (fun _ _ _ h => h) (Or.inl ⟨by kernel_rfl, fun w9 hw => y_pick (b := false) rfl rfl rfl⟩) hHeld ?_
              simp only [Act.put, List.setIfInBounds_toArray, List.set_cons_zero, List.set_cons_succ]
              refine takeD (i := 17) (d := some 46) (v := (.bool false)) rfl (by kernel_rfl) (by kernel_rfl) (by kernel_rfl) rfl (fun _ _ _ h => h) (Or.inl ⟨by kernel_rfl, fun w9 hw => y_pick (b := true) rfl rfl rfl⟩) hHeld ?_
              simp only [Act.put, List.setIfInBounds_toArray, List.set_cons_zero, List.set_cons_succ]
              refine wpAnyH_done (by kernel_rfl) ?_ _
              gi_wp2_with fail
              exact HKEEP.out (by unfold tst; rw [ha]; show ¬ decide (Lib.compareBytes x.1.1 y.1.1 < 0) = true; rw [d2]; simp)
        · have d1 : decide (Lib.compareBytes x.1.1 after.1 > 0) = false := decide_eq_false c1
          have ha : asked false after x.1 = false := by unfold asked; rw [d1]; rfl
          obtain ⟨f, hf⟩ : ∃ f, f = b.isSome := ⟨_, rfl⟩
          gi_wp2_with fail
          refine region_in (S := fun w9 => w9 = X.drew) (by kernel_rfl) (by kernel_rfl) (fun ⟨a, w, h⟩ => h) rfl (fun hHeld => ?_)
          refine takeD (i := 0) (d := some 29) (v := (.bool false)) rfl (by kernel_rfl) (by kernel_rfl) (by kernel_rfl) rfl (fun _ _ _ h => h) (Or.inl ⟨by kernel_rfl, fun w9 hw => by rw [hw]; exact y_bool rfl rfl (hbn.cell 0) rfl⟩) hHeld ?_
          simp only [Act.put, List.setIfInBounds_toArray, List.set_cons_zero, List.set_cons_succ]
          refine takeD (i := 1) (d := some 30) (v := (.bool false)) rfl (by kernel_rfl) (by kernel_rfl) (by kernel_rfl) rfl (fun _ _ _ h => h) (Or.inl ⟨by kernel_rfl, fun w9 hw => y_move rfl rfl⟩) hHeld ?_
          simp only [Act.put, List.setIfInBounds_toArray, List.set_cons_zero, List.set_cons_succ]
          refine takeD (i := 2) (d := some 31) (v := (.slice (some ⟨Bk, 0, none⟩) 32 32)) rfl (by kernel_rfl) (by kernel_rfl) (by kernel_rfl) rfl (fun _ _ _ h => h) (Or.inl ⟨by kernel_rfl, fun w9 hw => y_slK rfl rfl⟩) hHeld ?_
          simp only [Act.put, List.setIfInBounds_toArray, List.set_cons_zero, List.set_cons_succ]
          refine takeD (i := 3) (d := some 32) (v := (.slice (some ⟨h0, 0, none⟩) 32 32)) rfl (by kernel_rfl) (by kernel_rfl) (by kernel_rfl) rfl (fun _ _ _ h => h) (Or.inl ⟨by kernel_rfl, fun w9 hw => y_slK rfl rfl⟩) hHeld ?_
          simp only [Act.put, List.setIfInBounds_toArray, List.set_cons_zero, List.set_cons_succ]
          refine readyD (i := 4) (d := some 33) rfl (by kernel_rfl) rfl (by kernel_rfl) fun K hK => ?_
          refine op_c2 (fun _ _ => rfl) rfl rfl rfl (compare_any HG.out.2.2.1 HG.out.2.2.2.1) ?_
          rintro e w9 ⟨rfl, rfl⟩
          refine ⟨_, rfl, hK _ _ hHeld fun hHeld9 => ?_⟩
          clear hK K hHeld
          have hHeld := hHeld9
          clear hHeld9
          simp only [Act.put, List.setIfInBounds_toArray, List.set_cons_zero, List.set_cons_succ]
          refine takeD (i := 5) (d := some 34) (v := (.bool false)) rfl (by kernel_rfl) (by kernel_rfl) (by kernel_rfl) rfl (fun _ _ _ h => h) (Or.inl ⟨by kernel_rfl, fun w9 hw => y_gtr d1 rfl rfl⟩) hHeld ?_
          simp only [Act.put, List.setIfInBounds_toArray, List.set_cons_zero, List.set_cons_succ]
          refine takeD (i := 6) (d := some 35) (v := (.bool false)) rfl (by kernel_rfl) (by kernel_rfl) (by kernel_rfl) rfl (fun _ _ _ h => h) (Or.inl ⟨by kernel_rfl, fun w9 hw => y_pick (b := false) rfl rfl rfl⟩) hHeld ?_
          simp only [Act.put, List.setIfInBounds_toArray, List.set_cons_zero, List.set_cons_succ]
          refine takeD (i := 7) (d := some 36) (v := (.bool false)) rfl (by kernel_rfl) (by kernel_rfl) (by kernel_rfl) rfl (fun _ _ _ h => h) (Or.inl ⟨by kernel_rfl, fun w9 hw => y_move rfl rfl⟩) hHeld ?_
          simp only [Act.put, List.setIfInBounds_toArray, List.set_cons_zero, List.set_cons_succ]
          refine takeD (i := 8) (d := some 37) (v := undef) rfl (by kernel_rfl) (by kernel_rfl) (by kernel_rfl) rfl (fun _ _ _ h => h) (Or.inr ⟨by kernel_rfl, rfl⟩) hHeld ?_
          simp only [Act.put, List.setIfInBounds_toArray, List.set_cons_zero, List.set_cons_succ]
          refine takeD (i := 9) (d := some 38) (v := undef) rfl (by kernel_rfl) (by kernel_rfl) (by kernel_rfl) rfl (fun _ _ _ h => h) (Or.inr ⟨by kernel_rfl, rfl⟩) hHeld ?_
          simp only [Act.put, List.setIfInBounds_toArray, List.set_cons_zero, List.set_cons_succ]
          refine takeD (i := 10) (d := some 39) (v := undef) rfl (by kernel_rfl) (by kernel_rfl) (by kernel_rfl) rfl (fun _ _ _ h => h) (Or.inr ⟨by kernel_rfl, rfl⟩) hHeld ?_
          simp only [Act.put, List.setIfInBounds_toArray, List.set_cons_zero, List.set_cons_succ]
          refine takeD (i := 11) (d := some 40) (v := undef) rfl (by kernel_rfl) (by kernel_rfl) (by kernel_rfl) rfl (fun _ _ _ h => h) (Or.inr ⟨by kernel_rfl, rfl⟩) hHeld ?_
          simp only [Act.put, List.setIfInBounds_toArray, List.set_cons_zero, List.set_cons_succ]
          refine takeD (i := 12) (d := some 41) (v := undef) rfl (by kernel_rfl) (by kernel_rfl) (by kernel_rfl) rfl (fun _ _ _ h => h) (Or.inr ⟨by kernel_rfl, rfl⟩) hHeld ?_
          simp only [Act.put, List.setIfInBounds_toArray, List.set_cons_zero, List.set_cons_succ]
          refine takeD (i := 13) (d := some 42) (v := undef) rfl (by kernel_rfl) (by kernel_rfl) (by kernel_rfl) rfl (fun _ _ _ h => h) (Or.inr ⟨by kernel_rfl, rfl⟩) hHeld ?_
          simp only [Act.put, List.setIfInBounds_toArray, List.set_cons_zero, List.set_cons_succ]
          refine takeD (i := 14) (d := some 43) (v := undef) rfl (by kernel_rfl) (by kernel_rfl) (by kernel_rfl) rfl (fun _ _ _ h => h) (Or.inr ⟨by kernel_rfl, rfl⟩) hHeld ?_
          simp only [Act.put, List.setIfInBounds_toArray, List.set_cons_zero, List.set_cons_succ]
          refine takeD (i := 15) (d := some 44) (v := undef) rfl (by kernel_rfl) (by kernel_rfl) (by kernel_rfl) rfl (fun _ _ _ h => h) (Or.inr ⟨by kernel_rfl, rfl⟩) hHeld ?_
          simp only [Act.put, List.setIfInBounds_toArray, List.set_cons_zero, List.set_cons_succ]
          refine takeD (i := 16) (d := some 45) (v := undef) rfl (by kernel_rfl) (by kernel_rfl) (by kernel_rfl) rfl (fun _ _ _ h => h) (Or.inr ⟨by kernel_rfl, rfl⟩) hHeld ?_
          simp only [Act.put, List.setIfInBounds_toArray, List.set_cons_zero, List.set_cons_succ]
          refine takeD (i := 17) (d := some 46) (v := (.bool false)) rfl (by kernel_rfl) (by kernel_rfl) (by kernel_rfl) rfl (fun _ _ _ h => h) (Or.inl ⟨by kernel_rfl, fun w9 hw => y_pick (b := false) rfl rfl rfl⟩) hHeld ?_
          simp only [Act.put, List.setIfInBounds_toArray, List.set_cons_zero, List.set_cons_succ]
          refine wpAnyH_done (by kernel_rfl) ?_ _
          gi_wp2_with fail
          exact HKEEP.out (by unfold tst; rw [ha]; simp)
    case done =>
      rintro D xs X hD rfl hNB hK
      have hDs := (Array.getElem?_eq_some_iff.1 hK).1
      have hN2 : NB w g h0 (small R w) T P Rs after any (seen T (i + 1)) X.heap.size ({ target := .collected D, args := #[] } :: Ds) X := by
        rw [seen_succ]
        exact ⟨hNB.ix, hNB.ba, hNB.bn, hNB.br, hNB.bl, hNB.bf, ⟨D, by omega, hDs, rfl, hK, hNB.mks.mono hD⟩, hNB.lo, Nat.le_refl _⟩
      have HE := Lib.hid (And.intro hN2 (show h0 + 5 ≤ X.heap.size by omega))
      clear hNB hK hD hDs hN2 hTM1 hwf hN1 hBX hsz hs1
      gi_wp2_with fail
      exact ⟨⟨i + 1, _, _, _, _, _, _, _, _, _, _, _, _, _, _, _, _, _, _, _, _, _, _, _, _, _, _, _, _, _, _, _, _, HI.out.1, HE.out.1, HE.out.2, rfl⟩, by have := HI.out.1; show 16 - ((i : Int) + 1).toNat < 16 - ((i : Int)).toNat; omega⟩
    case stop =>
      rintro D c pre X _ _ h _
      exact h.elim
  · obtain rfl : i = 16 := by omega
    have g1 : ¬ ((16 : Nat) : Int) < 16 := by omega
    obtain ⟨b, hb⟩ : ∃ b, b = best any after (IL T) := ⟨_, rfl⟩
    have hbl := hNB.bl
    have hbf := hNB.bf
    rw [seen_all, ← hb] at hbl hbf
    have HN := Lib.hid (And.intro hNB (And.intro hb (And.intro hbl hbf)))
    clear hNB hsz hlt hi hb hbl hbf
    gi_wp2_with fail
    refine wpIn_wide.2 ?_
    refine wp_only ?_
    refine wp_region_held_drew (S := fun w9 => (∃ o, Blk w9 (h0 + 2) 58 (kvL o).toArray) ∧ Blk w9 (h0 + 3) 58 (kvL b).toArray ∧ Blk w9 (h0 + 4) 4 #[.bool b.isSome]) (by kernel_rfl) ⟨⟨none, HN.out.1.br.drew⟩, HN.out.2.2.1.drew, HN.out.2.2.2.drew⟩ (fun hHeld => ?_)
    refine takeD (i := 0) (d := some 51) (v := (.agg (kvL b).toArray)) rfl (by kernel_rfl) (by kernel_rfl) (by kernel_rfl) rfl (fun _ _ _ h => h) (Or.inl ⟨by kernel_rfl, fun w9 hw => y_mid rfl rfl (blk_range hw.2.1) Try.underlying58 rfl (keyed_sizeG (kvL_len b))⟩) hHeld ?_
    simp only [Act.put, List.setIfInBounds_toArray, List.set_cons_zero, List.set_cons_succ]
    refine takeD (i := 1) (d := some 52) (v := (.bool b.isSome)) rfl (by kernel_rfl) (by kernel_rfl) (by kernel_rfl) rfl (fun _ _ _ h => h) (Or.inl ⟨by kernel_rfl, fun w9 hw => y_bool rfl rfl (hw.2.2.cell 0) rfl⟩) hHeld ?_
    simp only [Act.put, List.setIfInBounds_toArray, List.set_cons_zero, List.set_cons_succ]
    refine readyD (i := 2) (d := none) rfl (by kernel_rfl) rfl (by kernel_rfl) fun K hK => ?_
    obtain ⟨oo, hb2⟩ := hHeld.1
    refine wp_store_mid 58 (.tmp 6) (.tmp 51) rfl (h0 + 2) 0 (kvL b).toArray rfl rfl (by exact blk_there hb2 0 _ (by rw [List.size_toArray, List.size_toArray, kvL_len, kvL_len]; decide)) (by rw [List.size_toArray]; exact keyed_sizeG (kvL_len b)) (all_oneCell_toArray (kvL_ones b)) ?_
    have m5 : Mod (one (h0 + 2)) W (World.setCells W.drew (h0 + 2) 0 (kvL b)) := mod_setCells (S := one (h0 + 2)) (fun _ => rfl) _ _ _ ((Mod.refl _ W).drew)
    have b5 : Blk (World.setCells W.drew (h0 + 2) 0 (kvL b)) (h0 + 2) 58 (kvL b).toArray := by
      have h1 := blk_sets (h0 + 2) (kvL b) 0 (kvL oo) W.drew hb2 (by rw [kvL_len, kvL_len]; decide)
      rw [show (kvL oo).take 0 ++ kvL b ++ (kvL oo).drop (0 + (kvL b).length) = kvL b from by rw [List.drop_of_length_le (by rw [kvL_len, kvL_len]; decide)]; simp] at h1
      exact h1
    have k5 : MK h0 W.heap.size Ds (World.setCells W.drew (h0 + 2) 0 (kvL b)) := HN.out.1.mks.mod m5 (fun k _ hk c => by
      have c : k = h0 + 2 := c
      subst c
      have := HN.out.1.br
      rw [show W.heap[h0 + 2]? = _ from this] at hk
      cases hk)
    have l5 : Below w.heap.size w (World.setCells W.drew (h0 + 2) 0 (kvL b)) := HN.out.1.lo.trans (m5.below HN.out.1.lo.size (fun k _ c => by have c : k = h0 + 2 := c; have := HS.out.1; omega))
    have s5 : h0 ≤ (World.setCells W.drew (h0 + 2) 0 (kvL b)).heap.size := by have := b5.lt; omega
    have H5 := Lib.hid (And.intro b5 (And.intro l5 (And.intro s5 k5)))
    refine hK _ _ ⟨⟨b, b5⟩, hHeld.2.1.mod (mod_setCells (S := one (h0 + 2)) (fun _ => rfl) _ _ _ (Mod.refl _ _)) (fun c => by have c : h0 + 3 = h0 + 2 := c; omega), hHeld.2.2.mod (mod_setCells (S := one (h0 + 2)) (fun _ => rfl) _ _ _ (Mod.refl _ _)) (fun c => by have c : h0 + 4 = h0 + 2 := c; omega)⟩ fun hHeld9 => ?_
    clear hK K hHeld hb2 m5 b5 k5 l5 s5
    have hHeld := hHeld9
    clear hHeld9
    simp only [Act.put, List.setIfInBounds_toArray, List.set_cons_zero, List.set_cons_succ]
    refine takeD (i := 3) (d := some 7) (v := (.bool b.isSome)) rfl (by kernel_rfl) (by kernel_rfl) (by kernel_rfl) rfl (fun _ _ _ h => h) (Or.inl ⟨by kernel_rfl, fun w9 hw => y_assign rfl rfl⟩) hHeld ?_
    simp only [Act.put, List.setIfInBounds_toArray, List.set_cons_zero, List.set_cons_succ]
    refine wpAnyH_done (by kernel_rfl) ?_ _
    refine ret_out ?_
    gi_wp2_with fail
    refine leaves_marks (lo := h0) H5.out.2.2.2 ?_ ?_
    · exact H5.out.2.2.1
    · rintro W' hW' hC'
      exact ⟨.tuple #[.agg (kvL b).toArray, .bool b.isSome], ret_two (p := 6) (u := 7) (ty := 58) rfl _ _ (h0 + 2) (kvL b) _ rfl rfl (blk_range (hC' _ _ _ H5.out.1)) Try.underlying58 rfl (keyed_sizeG (kvL_len b)), ⟨b, rfl, by rw [HN.out.2.1]; exact best_is _ _ _⟩, Mod.of_new (H5.out.2.1.trans (hW'.mono HS.out.1))⟩
end Go.Proofs.Ytknbehjhaaidoaa.IX

