/- IndexExact: the texts IxK IxM IxN of this seat, one behind the other. -/
import Derived.Test.YtknbehjhaaidoaaM13
import Derived.Great.BuildSlice
/- Rows of pairs of the call's own. -/
namespace Go.Proofs.Ytknbehjhaaidoaa.IX
open Go.RowKit Go.Shelf Mem HD TB
set_option linter.unusedVariables false
set_option linter.unusedSimpArgs false
def pairL (x : Key × Ent) : List Value := x.1.L ++ x.2.L
theorem pairL_len (x : Key × Ent) : (pairL x).length = 36 := by unfold pairL; rw [List.length_append, Key.len, Ent.len]
theorem pairL_ones (x : Key × Ent) : ∀ v ∈ pairL x, v.oneCell' = true := kvL_ones (some x)
/-- A row of pairs of the call's own. -/
def KvRow (w : World) (base : Nat) (v : Value) (l : List (Key × Ent)) : Prop := w.ownsRow base 58 36 v l.length (l.map pairL).flatten
theorem pairL_all (l : List (Key × Ent)) : ∀ y ∈ l.map pairL, y.length = 36 := fun y hy => by obtain ⟨k, _, rfl⟩ := List.mem_map.1 hy; exact pairL_len k
theorem KvRow.nil (w : World) (base : Nat) : KvRow w base (.slice none 0 0) [] := ⟨rfl, .inl ⟨rfl, rfl⟩⟩
theorem KvRow.own {w : World} {base b : Nat} {v : Value} {l : List (Key × Ent)} (h : KvRow w base v l) (hb : v.ownBlock = some b) : base ≤ b ∧ ∃ cur, Blk w b 58 cur := by
  rcases h.2 with ⟨h1, _⟩ | ⟨g, cap, cur, h1, h2, h3, _⟩
  · rw [h1] at hb; cases hb
  · rw [h1] at hb
    have e : g = b := by injection hb
    subst e
    exact ⟨h2, cur, h3⟩
theorem KvRow.mod {S : Nat → Prop} {w w' : World} {base : Nat} {v : Value} {l : List (Key × Ent)} (h : KvRow w base v l) (hm : Mod S w w') (hn : ∀ b, v.ownBlock = some b → ¬ S b) : KvRow w' base v l := by
  refine ⟨h.1, ?_⟩
  rcases h.2 with h2 | ⟨g, cap, cur, h1, h2, h3, h4⟩
  · exact .inl h2
  · exact .inr ⟨g, cap, cur, h1, h2, (hm.block g (Blk.lt (show Blk w g 58 cur from h3)) (hn g (by rw [h1]; rfl))).trans h3, h4⟩
theorem KvRow.base {w : World} {base base' : Nat} {v : Value} {l : List (Key × Ent)} (h : KvRow w base v l) (hb : base' ≤ base) : KvRow w base' v l := by
  refine ⟨h.1, ?_⟩
  rcases h.2 with h2 | ⟨g, cap, cur, h1, h2, h3, h4⟩
  · exact .inl h2
  · exact .inr ⟨g, cap, cur, h1, Nat.le_trans hb h2, h3, h4⟩
/-- A row of pairs that may lie anywhere. -/
def KvAt (w : World) (v : Value) (l : List (Key × Ent)) : Prop := ∃ A c, v = .slice A l.length c ∧ ∀ (i : Nat) (x : Key × Ent), l[i]? = some x → ∃ b o, A = some ⟨b, o, none⟩ ∧ w.rangeAt b (o + i * 36) (pairL x)
theorem KvAt.mod {S : Nat → Prop} {w w' : World} {v : Value} {l : List (Key × Ent)} (h : KvAt w v l) (m : Mod S w w') (hs : ∀ b, v.ownBlock = some b → ¬ S b) : KvAt w' v l := by
  obtain ⟨A, c, rfl, hr⟩ := h
  refine ⟨A, c, rfl, fun i k hk => ?_⟩
  obtain ⟨b, o, rfl, h1⟩ := hr i k hk
  exact ⟨b, o, rfl, range_mod h1 m (hs b rfl)⟩
theorem KvRow.kat {w : World} {base : Nat} {v : Value} {l : List (Key × Ent)} (h : KvRow w base v l) : KvAt w v l := by
  rcases h.2 with ⟨h1, h2⟩ | ⟨g, cap, cur, h1, h2, h3, h4, h5, h6, h7⟩
  · have : l = [] := List.eq_nil_of_length_eq_zero h2
    subst this
    exact ⟨none, 0, h1, fun i k hk => by cases hk⟩
  · refine ⟨some ⟨g, 0, none⟩, cap, h1, fun i k hk => ⟨g, 0, rfl, fun j v hv => ?_⟩⟩
    have hj := (List.getElem?_eq_some_iff.1 hv).1
    rw [pairL_len] at hj
    have hf := flat_get (sz := 36) (l.map pairL) i (pairL k) (pairL_all l) (by rw [List.getElem?_map, hk]; rfl) j v hv
    rw [← h7, List.getElem?_take] at hf
    have hb : Blk w g 58 cur := h3
    rw [hb.cell, Nat.zero_add]
    split at hf
    · simpa using hf
    · cases hf
theorem keyed_zero : (Try.prog.info? 58).map (fun i => (i.zero, i.size, i.bytes)) = some (some (.agg (kvL none).toArray), 36, 64) := by kernel_rfl
theorem kvslice_run (w : World) (x : Key × Ent) : (Instr.buildSlice 77 1 #[(0, .agg (pairL x).toArray)]).run Try.prog w = .ok (.slice (some ⟨w.heap.size, 0, none⟩) 1 1) (w.alloc (.cells (pairL x).toArray 58)) := by
  obtain ⟨i0, hi, hz0, hz1, hz2⟩ := info_parts keyed_zero
  refine run_buildSlice w _ _ 1 _ (pairL x).toArray i0 (.agg (kvL none).toArray) Try.underlying77 hi hz0 (by rw [hz1]; decide) (by rw [hz1]; decide) ?_
  rw [hz1]
  have h := Great.fill_whole (s := 36) (by decide) [.agg (pairL x).toArray] ((Array.range (1 * 36)).map ((Value.agg (kvL none).toArray).cells[· % (Value.agg (kvL none).toArray).cells.size]!)) (fun v hv => by simp at hv; subst hv; simp [Value.cells, pairL_len]) (by simp)
  rw [show ([Value.agg (pairL x).toArray].flatMap fun v => v.cells.toList).toArray = (pairL x).toArray from by simp [Value.cells]] at h
  exact h
section
variable {a : Act} {o : Oper} {w w' : World}
theorem y_kvslice {q : Operand} {x : Key × Ent} (ho : o.op = .buildSlice 77 1 #[(0, q)]) (hq : a.eval q = .agg (pairL x).toArray) : (execOp a.eval o).run Try.prog w = .ok (.value (.slice (some ⟨w.heap.size, 0, none⟩) 1 1)) (w.alloc (.cells (pairL x).toArray 58)) := by
  have h := kvslice_run w x
  unfold execOp
  simp only [ho, hq, List.map_toArray, List.map_cons, List.map_nil, Sem.run_bind, h, Result.andThen_ok, Sem.run_pure]
theorem y_kvapp {s q : Operand} {v u v' : Value} {t : TypeId} (ho : o.op = .call { callee := .builtin .append, args := #[s, q], argTypes := #[t, t] }) (hs : a.eval s = v) (hq : a.eval q = u) (hrun : (Builtin.append_ #[t, t] o.type #[v, u]).run Try.prog w = .ok v' w') : (execOp a.eval o).run Try.prog w = .ok (.value v') w' := by
  unfold execOp
  simp only [ho, resolve, invoke, builtin, Sem.run_bind, Sem.run_pure, Result.andThen_ok, List.map_toArray, List.map_cons, List.map_nil, hs, hq, hrun]
theorem y_ldkv {x : Operand} {p : Addr} {A : Option Addr} {n c : Nat} (ho : o.op = .load 77 x) (hx : a.eval x = .pointer (some p)) (hc : w.cell? p = some (.slice A n c)) : (execOp a.eval o).run Try.prog w = .ok (.value (.slice A n c)) w := by
  generalize a.eval = ev at hx
  unfold execOp
  simp only [ho, hx]
  go_simp
theorem y_keyedp {x y : Operand} {k : Key} {e : Ent} (ho : o.op = .build 58 #[(0, x), (1, y)]) (hx : a.eval x = .agg k.L.toArray) (hy : a.eval y = .agg e.L.toArray) : (execOp a.eval o).run Try.prog w = .ok (.value (.agg (pairL (k, e)).toArray)) w := y_keyed ho hx hy
end
/-- One pair more onto a row of the call's own. -/
theorem kv_append (w : World) {base b : Nat} {v : Value} {l : List (Key × Ent)} {x : Key × Ent} (ty : TypeId) (hown : KvRow w base v l) (hb : Blk w b 58 (pairL x).toArray) (hn : l.length ≤ 17179869184) (hbase : base ≤ w.heap.size) :
    ∃ v' w', (Builtin.append_ #[77, 77] ty #[v, .slice (some ⟨b, 0, none⟩) 1 1]).run Try.prog w = .ok v' w' ∧ KvRow w' base v' (l ++ [x]) ∧ w.grownBy w' v.ownBlock ∧ (v'.ownBlock = v.ownBlock ∨ v'.ownBlock = some w.heap.size) := by
  obtain ⟨i0, hi, hz0, hz1, hz2⟩ := info_parts keyed_zero
  obtain ⟨v', w', hrun, h2, h3, h4, _⟩ := run_append (P := Try.prog) w base 77 ty 58 i0 (.agg (kvL none).toArray) 36 64 Try.underlying77 hi hz0 hz1 hz2 rfl (by decide) v l.length (l.map pairL).flatten hown (some ⟨b, 0, none⟩) 1 1 (pairL x) (Rds.of_blk hb (by rw [pairL_len]) (fun j u hu => by rw [Nat.zero_add, List.getElem?_toArray]; exact hu)) (pairL_ones x) (by simp only [maxLen]; omega) (by omega) hbase
  refine ⟨v', w', hrun, ?_, h3, h4⟩
  show w'.ownsRow base 58 36 v' (l ++ [x]).length ((l ++ [x]).map pairL).flatten
  rw [List.length_append, List.map_append, List.flatten_append]
  simpa using h2
end Go.Proofs.Ytknbehjhaaidoaa.IX

/- An index: All, up to the sort. -/
namespace Go.Proofs.Ytknbehjhaaidoaa.IX
open Go.RowKit Go.Shelf Mem HD TB
set_option linter.unusedVariables false
set_option linter.unusedSimpArgs false
attribute [local go_sem] Oper.semAt_some
/-- What is known between two steps of All. -/
structure NA (w : World) (g h0 : Nat) (R : Nat → Prop) (T : Nat → Tab Key Ent) (P : Nat → Nat) (Rs : Nat → Nat → Prop) (L : List (Key × Ent)) (B : Nat) (Ds : List Deferred) (W : World) : Prop where
  ix : IxAt W g R T P Rs
  rv : ∃ v, Blk W h0 77 #[v] ∧ KvRow W (h0 + 1) v L
  mks : MK h0 B Ds W
  lo : Below w.heap.size w W
  sz : B ≤ W.heap.size
def notB (W : World) (B : Nat) (S : Nat → Prop) : Prop := ∀ k, S k → B ≤ k ∧ ∃ o : Obj, W.heap[k]? = some o ∧ o.isCells = false
theorem notB_cells {W : World} {B : Nat} {S : Nat → Prop} (h : notB W B S) {k : Nat} {t : TypeId} {c : Array Value} (hb : Blk W k t c) : ¬ S k := fun hs => by
  obtain ⟨_, o, ho, hc⟩ := h k hs
  rw [show W.heap[k]? = _ from hb] at ho
  cases ho; cases hc
theorem NA.mod {w : World} {g h0 B : Nat} {R : Nat → Prop} {T : Nat → Tab Key Ent} {P : Nat → Nat} {Rs : Nat → Nat → Prop} {L : List (Key × Ent)} {Ds : List Deferred} {W W' : World} {S : Nat → Prop} (h : NA w g h0 R T P Rs L B Ds W) (m : Mod S W W') (hs : notB W B S) (hB : h0 + 1 ≤ B) (hR : ∀ x, R x → x < h0) (hw : w.heap.size ≤ h0) : NA w g h0 R T P Rs L B Ds W' := by
  obtain ⟨v, h1, h2⟩ := h.rv
  refine ⟨h.ix.mod m (fun x hx c => by have := hR x hx; have := (hs x c).1; omega), ⟨v, h1.mod m (notB_cells hs h1), h2.mod m (fun b e => by obtain ⟨_, cur, hc⟩ := h2.own e; exact notB_cells hs hc)⟩, h.mks.mod m (fun k hk _ c => by have := (hs k c).1; omega), h.lo.trans (m.below h.lo.size (fun k _ c => by have := (hs k c).1; omega)), Nat.le_trans h.sz m.size⟩
theorem NA.up {w : World} {g h0 B B' : Nat} {R : Nat → Prop} {T : Nat → Tab Key Ent} {P : Nat → Nat} {Rs : Nat → Nat → Prop} {L : List (Key × Ent)} {Ds : List Deferred} {W : World} (h : NA w g h0 R T P Rs L B Ds W) (hB : B ≤ B') (hs : B' ≤ W.heap.size) : NA w g h0 R T P Rs L B' Ds W :=
  ⟨h.ix, h.rv, h.mks.mono hB, h.lo, hs⟩
theorem na_own {w : World} {g h0 B : Nat} {R : Nat → Prop} {T : Nat → Tab Key Ent} {P : Nat → Nat} {Rs : Nat → Nat → Prop} {L : List (Key × Ent)} {Ds : List Deferred} (hB : h0 + 1 ≤ B) (hR : ∀ x, R x → x < h0) (hw : w.heap.size ≤ h0) : OwnFrom B (fun pre W => NA w g h0 R T P Rs (L ++ pre) B Ds W) :=
  fun s W W' row hs hg hr => hs.mod (S := fun k => row = some k) (Mod.of_grown hg (fun k _ e => e)) (fun k e => hr k e) hB hR hw
theorem notB_no (W : World) (B : Nat) : notB W B no := fun _ c => c.elim
/-- One pair more. -/
theorem NA.add {w : World} {g h0 B b0 i : Nat} {R : Nat → Prop} {T : Nat → Tab Key Ent} {P : Nat → Nat} {Rs : Nat → Nat → Prop} {L : List (Key × Ent)} {Ds : List Deferred} {W W6 : World} {v v' : Value} {x : Key × Ent} (h : NA w g h0 R T P Rs L B Ds W) (hb : Blk W h0 77 #[v]) (hr : KvRow W (h0 + 1) v L) (hg : W.grownBy W6 v.ownBlock) (hr6 : KvRow W6 (h0 + 1) v' (L ++ [x])) (ho : v'.ownBlock = v.ownBlock ∨ v'.ownBlock = some W.heap.size) (hB : h0 + 1 ≤ B) (hR : ∀ x, R x → x < h0) (hw : w.heap.size ≤ h0) (hi : i < 16) (hbx : Blk W b0 100 #[.pointer (some ⟨P i, 0, none⟩)]) :
    KeepsFrom B W (W6.setCell ⟨h0, 0, none⟩ v') ∧ KpT (fun k => Rs i k ∨ k = b0) W (W6.setCell ⟨h0, 0, none⟩ v') ∧ NA w g h0 R T P Rs (L ++ [x]) B Ds (W6.setCell ⟨h0, 0, none⟩ v') ∧ Blk (W6.setCell ⟨h0, 0, none⟩ v') b0 100 #[.pointer (some ⟨P i, 0, none⟩)] := by
  have m6 : Mod (fun k => v.ownBlock = some k) W W6 := Mod.of_grown hg (fun _ _ e => e)
  have m : Mod (fun k => k = h0 ∨ v.ownBlock = some k) W (W6.setCell ⟨h0, 0, none⟩ v') := Mod.set (S := fun k => k = h0 ∨ v.ownBlock = some k) (p := ⟨h0, 0, none⟩) (m6.mono (fun k _ c => .inr c)) (fun _ => .inl rfl) _
  have hlow : ∀ k, v.ownBlock = some k → h0 + 1 ≤ k := fun k e => (hr.own e).1
  have hcell : ∀ k t c, Blk W k t c → t ≠ 77 → t ≠ 58 → ¬ (k = h0 ∨ v.ownBlock = some k) := fun k t c hk h1 h2 d => by
    rcases d with rfl | d
    · exact h1 (Blk.same hk hb).1
    · obtain ⟨_, cur, hc⟩ := hr.own d
      exact h2 (Blk.same hk hc).1
  refine ⟨⟨m.size, fun k o hk hko hc => ?_⟩, fun k t c hk hB' => ?_, ⟨?_, ⟨v', ?_, ?_⟩, ?_, ?_, Nat.le_trans h.sz m.size⟩, ?_⟩
  · have hne : ¬ (k = h0 ∨ v.ownBlock = some k) := fun d => by
      rcases d with rfl | d
      · rw [show W.heap[k]? = _ from hb] at hko; cases hko; cases hc
      · obtain ⟨_, cur, hcc⟩ := hr.own d
        rw [show W.heap[k]? = _ from hcc] at hko; cases hko; cases hc
    exact (m.block k (Array.getElem?_eq_some_iff.1 hko).1 hne).trans hko
  · refine hB'.mod m (fun d => ?_)
    rcases hk with (hk | hk) | rfl
    · have h1 := hR k (h.ix.sub i hi k hk).1
      rcases d with d | d
      · omega
      · have := hlow k d; omega
    · subst hk; exact hcell _ _ _ hbx (by decide) (by decide) d
    · exact hcell k _ _ hB' (by decide) (by decide) d
  · exact h.ix.mod m (fun x hx d => by have := hR x hx; rcases d with d | d; omega; have := hlow x d; omega)
  · have h6 : Blk W6 h0 77 #[v] := hb.mod m6 (fun d => by have := hlow _ d; omega)
    exact h6.put 0 v'
  · exact hr6.mod (S := one h0) (Mod.set (S := one h0) (p := ⟨h0, 0, none⟩) (Mod.refl _ _) (fun _ => rfl) _) (fun b e c => by
      have c : b = h0 := c
      subst c
      have := (hr6.own e).1
      omega)
  · refine h.mks.mod m (fun k hk hko d => ?_)
    rcases d with rfl | d
    · rw [show W.heap[k]? = _ from hb] at hko; cases hko
    · obtain ⟨_, cur, hcc⟩ := hr.own d
      rw [show W.heap[k]? = _ from hcc] at hko; cases hko
  · exact h.lo.trans (m.below h.lo.size (fun k _ d => by rcases d with d | d; omega; have := hlow k d; omega))
  · exact hbx.mod m (hcell _ _ _ hbx (by decide) (by decide))
def Sorted (l : List (Key × Ent)) : Prop := l.Pairwise fun x y => ¬ klt y.1 x.1
/-- What the sort does. -/
def SortOK : Prop := ∀ (W : World) (base : Nat) (v : Value) (l : List (Key × Ent)), KvRow W base v l → l.length ≤ 17179869184 → Calls Try.prog 60 #[v, .func (.func 61) #[] #[]] W fun e w' => e = .returned (.tuple #[]) ∧ ∃ l', l'.Perm l ∧ Sorted l' ∧ KvRow w' base v l' ∧ Mod (fun k => v.ownBlock = some k) W w'
theorem seen_len {T : Nat → Tab Key Ent} (hb : ∀ i, i < 16 → (T i).L.length < 1073741824) {i : Nat} (hi : i ≤ 16) : (seen T i).length ≤ i * 1073741824 := by
  have h1 : (seen T i).length = sumT T i := by unfold seen sumT; rw [List.length_flatMap]
  rw [h1]
  exact sumT_le T _ i (fun j hj => hb j (by omega))
set_option maxRecDepth 100000 in
set_option maxHeartbeats 4000000 in
theorem ixall_of {w : World} {g : Nat} {R : Nat → Prop} {T : Nat → Tab Key Ent} {P : Nat → Nat} {Rs : Nat → Nat → Prop} (hso : SortOK) (h : IxAt w g R T P Rs) (hb : ∀ i, i < 16 → (T i).L.length < 1073741824) : Calls Try.prog 28 #[.pointer (some ⟨g, 0, none⟩)] w fun e w' => ∃ hL v l, e = .returned (.func (.func 62) #[] #[.pointer (some ⟨hL, 0, none⟩)]) ∧ w.heap.size ≤ hL ∧ Blk w' hL 77 #[v] ∧ KvRow w' (hL + 1) v l ∧ l.Perm (IL T) ∧ Sorted l ∧ Mod no w w' := by
  refine (callsIn_wide (n := 6)).1 ?_
  have HSO := Lib.hid hso
  have HBD := Lib.hid hb
  have hm0 : Mod no w (w.alloc (.cells #[.slice none 0 0] 77)) := (Mod.refl no w).alloc _
  have HB := Lib.hid (show NA w g w.heap.size (small R w) T P Rs [] (w.heap.size + 1) [] (w.alloc (.cells #[.slice none 0 0] 77)) from ⟨(h.small).mod hm0 (fun _ _ c => c), ⟨.slice none 0 0, Blk.new w _ _, KvRow.nil _ _⟩, trivial, hm0.below (Nat.le_refl _) (fun _ _ c => c.elim), by simp⟩)
  have HR := Lib.hid (show ∀ x, small R w x → x < w.heap.size from fun x hx => hx.2)
  clear h hso hb hm0
  refine callsIn_of_wp_marks Try.func28 rfl trivial ?_ rfl
  simp only [Try.ntmps28, List.size_toArray, List.length_cons, List.length_nil, Nat.reduceAdd, Nat.reduceSub, Array.replicate_succ, Array.replicate_zero, List.push_toArray, List.append_toArray, List.nil_append, List.cons_append]
  gi_wp2_with (first
    | (refine ⟨trivial, ?_⟩; gi_at_call 53; refine (callsIn_wide.2 (there_any HB.out.ix)).mono ?_; rintro e w' ⟨rfl, rfl⟩)
    | (refine wpListIn_load_mid (by rfl) 101 (.tmp 12) (by rfl) g 0 (by rfl) (ptrL P) _ (by exact blk_range HB.out.ix.b) Try.underlying101 rfl (arr16_sizeG (ptrL_len P)) ?_))
  obtain ⟨w5, hw5⟩ : ∃ w5, w5 = w.alloc (.cells #[.slice none 0 0] 77) := ⟨_, rfl⟩
  rw [← hw5] at HB ⊢
  obtain ⟨h0, hh0⟩ : ∃ h0, h0 = w.heap.size := ⟨_, rfl⟩
  have HS := Lib.hid (show w.heap.size ≤ h0 ∧ w5.heap.size = h0 + 1 from by rw [hh0, hw5]; exact ⟨Nat.le_refl _, by simp⟩)
  clear hw5
  rw [← hh0] at HR ⊢
  have HB := Lib.hid (show NA w g h0 (small R w) T P Rs [] (h0 + 1) [] w5 from by rw [hh0]; exact HB.out)
  clear hh0
  refine wpIn_loop (fun a W => ∃ (i : Nat) (Ds : List Deferred) (u5 u6 u7 u15 u16 u17 u18 u19 u20 u21 u22 u23 u24 u25 u26 u27 : Value), i ≤ 16 ∧ NA w g h0 (small R w) T P Rs (seen T i) W.heap.size Ds W ∧ h0 + 1 ≤ W.heap.size ∧ a = { tmps := #[.pointer (some ⟨g, 0, none⟩), undef, .nilFunc, .pointer (some ⟨h0, 0, none⟩), undef, u5, u6, u7, .pointer (some ⟨g, 0, none⟩), .bool true, .pointer (some ⟨g, 0, none⟩), .pointer (some ⟨g, 0, none⟩), .pointer (some ⟨g, 0, none⟩), .agg (ptrL P).toArray, .int .i64 (i : Int), u15, u16, u17, u18, u19, u20, u21, u22, u23, u24, u25, u26, u27, undef, undef, undef], defers := Ds }) (fun a _ => 16 - (intOf (a.tmps.getD 14 undef)).toNat) ⟨0, [], undef, undef, undef, undef, undef, undef, undef, undef, undef, undef, undef, undef, undef, undef, undef, undef, by omega, by rw [HS.out.2]; exact HB.out, by rw [HS.out.2]; exact Nat.le_refl _, rfl⟩ ?_
  clear HB
  rintro a W ⟨i, Ds, u5, u6, u7, u15, u16, u17, u18, u19, u20, u21, u22, u23, u24, u25, u26, u27, hi, hNB, hsz, rfl⟩
  by_cases hlt : i < 16
  · have g1 : (i : Int) < 16 := by omega
    have HN := Lib.hid (And.intro hNB (And.intro hsz hlt))
    clear hNB hsz hlt hi
    gi_wp2_with (first
      | (refine wpListIn_yield (by rfl) (by rfl) (by rintro c hc; cases hc) (y_ixp (P := P) (i := i) rfl rfl rfl HN.out.2.2) ?_)
      | (refine ⟨trivial, ?_⟩; gi_at_call 57; refine (all_in _ _ _).mono ?_; rintro e w' ⟨rfl, rfl⟩))
    obtain ⟨ya, ys, po, hTM⟩ := HN.out.1.ix.t i HN.out.2.2
    have hwf := HN.out.1.ix.wf i HN.out.2.2
    have m1 : Mod no W (W.alloc (.cells #[.pointer (some ⟨P i, 0, none⟩)] 100)) := (Mod.refl no W).alloc _
    have hTM1 := hTM.mod m1 (fun _ _ c => c)
    have hN1 : NA w g h0 (small R w) T P Rs (seen T i) (W.heap.size + 1) Ds (W.alloc (.cells #[.pointer (some ⟨P i, 0, none⟩)] 100)) := (HN.out.1.mod m1 (notB_no _ _) HN.out.2.1 HR.out HS.out.1).up (Nat.le_succ _) (by simp)
    have hBX := Blk.new W 100 #[.pointer (some ⟨P i, 0, none⟩)]
    have hRi : ∀ k, Rs i k → k < h0 := fun k hk => HR.out k (HN.out.1.ix.sub i HN.out.2.2 k hk).1
    have hsz := HN.out.2.1
    obtain ⟨W1, hW1⟩ : ∃ W1, W1 = W.alloc (.cells #[.pointer (some ⟨P i, 0, none⟩)] 100) := ⟨_, rfl⟩
    have hs1 : W1.heap.size = W.heap.size + 1 := by rw [hW1]; simp
    obtain ⟨b0, hb0⟩ : ∃ b0, b0 = W.heap.size := ⟨_, rfl⟩
    rw [← hb0] at hN1 hBX hsz hs1 ⊢
    rw [← hW1] at hN1 hTM1 hBX ⊢
    rw [← hs1] at hN1
    have HI := Lib.hid (And.intro HN.out.2.2 (And.intro hRi (And.intro hsz hs1)))
    clear m1 hTM hW1 hb0 HN hRi
    refine wpIn_rangeFunc_ownH (n := 6) rfl (by decide) (gf := 92) (lb := #[.pointer (some ⟨b0, 0, none⟩)]) rfl trivial (enters_of Try.func92 (by kernel_rfl) rfl)
      (all_stops (n := 5) hTM1 hwf hBX (by decide)) kpT_t (fun X l o o' _ hl hc _ => kpT_b X l o o' hl hc) (Below.refl _ _) (fun _ => rfl)
      (fun pre X => NA w g h0 (small R w) T P Rs (seen T i ++ pre) W1.heap.size Ds X ∧ Blk X b0 100 #[.pointer (some ⟨P i, 0, none⟩)])
      (fun _ _ _ => False)
      (OwnFrom.and (na_own (by omega) HR.out HS.out.1) (Own.from (blk_own _ _ _) _))
      (fun _ _ _ _ _ hs _ _ => hs)
      ⟨by rw [List.append_nil]; exact hN1, hBX⟩
      (fun x a' X => ∃ Bk, W1.heap.size ≤ Bk ∧ Blk X Bk 39 x.1.L.toArray ∧ Blk X (Bk + 1) 56 x.2.L.toArray ∧ a' = { tmps := #[.pointer (some ⟨g, 0, none⟩), undef, .nilFunc, .pointer (some ⟨h0, 0, none⟩), undef, .pointer (some ⟨P i, 0, none⟩), .pointer (some ⟨Bk, 0, none⟩), .pointer (some ⟨(Bk + 1), 0, none⟩), .pointer (some ⟨g, 0, none⟩), .bool true, .pointer (some ⟨g, 0, none⟩), .pointer (some ⟨g, 0, none⟩), .pointer (some ⟨g, 0, none⟩), .agg (ptrL P).toArray, .int .i64 (i : Int), .bool true, .pointer (some ⟨P i, 0, none⟩), .pointer (some ⟨P i, 0, none⟩), .func (.func 92) #[] #[.pointer (some ⟨b0, 0, none⟩)], .agg x.1.L.toArray, .agg x.2.L.toArray, u21, u22, u23, u24, u25, u26, u27, undef, undef, undef], defers := [] })
      (fun x a' _ X Y row hs hg hr => by obtain ⟨Bk, h1, h2, h3, h4⟩ := hs; exact ⟨Bk, h1, blk_own (β := Unit) Bk 39 _ () X Y row h2 hg (fun r e => (hr r e).2), blk_own (β := Unit) (Bk + 1) 56 _ () X Y row h3 hg (fun r e => (hr r e).2), h4⟩)
      ?assign ?body ?done ?stop
    case assign =>
      rintro l pre x X K ⟨hNB, hbx⟩ hK
      have HA := Lib.hid (And.intro hNB (And.intro hbx hK))
      have HK1 := Lib.hid (show World.there (X.alloc (.cells k0.L.toArray 39)) X.heap.size 0 x.1.L.toArray.size from blk_there (Blk.new X 39 k0.L.toArray) 0 _ (by rw [List.size_toArray, List.size_toArray, Key.len, Key.len]; decide))
      have HF1 := Lib.hid (show ∀ w2, w2 = World.setCells (X.alloc (.cells k0.L.toArray 39)) X.heap.size 0 x.1.L.toArray.toList → Mod no X w2 ∧ Blk w2 X.heap.size 39 x.1.L.toArray ∧ w2.heap.size = X.heap.size + 1 from fun w2 e => by
        subst e
        refine ⟨mod_setCells (fun c => absurd c (Nat.lt_irrefl _)) _ _ _ ((Mod.refl no X).alloc _), ?_, by rw [setCells_size]; simp⟩
        have h1 := blk_sets X.heap.size x.1.L 0 k0.L _ (Blk.new X 39 k0.L.toArray) (by rw [Key.len, Key.len]; decide)
        rw [show k0.L.take 0 ++ x.1.L ++ k0.L.drop (0 + x.1.L.length) = x.1.L from by rw [List.drop_of_length_le (by rw [Key.len, Key.len]; decide)]; simp] at h1
        exact h1)
      have HF2 := Lib.hid (show ∀ Y : World, World.there (Y.alloc (.cells e0.L.toArray 56)) Y.heap.size 0 x.2.L.toArray.size ∧ ∀ w2, w2 = World.setCells (Y.alloc (.cells e0.L.toArray 56)) Y.heap.size 0 x.2.L.toArray.toList → Mod no Y w2 ∧ Blk w2 Y.heap.size 56 x.2.L.toArray from fun Y => ⟨blk_there (Blk.new Y 56 e0.L.toArray) 0 _ (Nat.le_refl 4), fun w2 e => by
        subst e
        exact ⟨mod_setCells (fun c => absurd c (Nat.lt_irrefl _)) _ _ _ ((Mod.refl no Y).alloc _), blk_sets Y.heap.size x.2.L 0 e0.L _ (Blk.new Y 56 e0.L.toArray) (Nat.le_refl 4)⟩⟩)
      clear hNB hbx hK hTM1 hwf hN1 hBX hsz hs1
      gi_wp2_with (first
        | (refine wpListIn_store_mid rfl 39 (.tmp 6) (.tmp 19) (by rfl) X.heap.size 0 x.1.L.toArray (by rfl) (by rfl) (by exact HK1.out) (by rw [List.size_toArray]; exact key_sizeG x.1.len) (all_oneCell_toArray (key_ones _)) ?_
           obtain ⟨w2, hw2⟩ : ∃ w2, w2 = World.setCells (X.alloc (.cells k0.L.toArray 39)) X.heap.size 0 x.1.L.toArray.toList := ⟨_, rfl⟩
           change wpListIn (Fence.wide.inRound l) _ Try.prog _ _ _ _ (World.setCells (X.alloc (.cells k0.L.toArray 39)) X.heap.size 0 x.1.L.toArray.toList)
           rw [← hw2]
           have H2 := Lib.hid (HF1.out w2 hw2)
           clear hw2 HF1 HK1)
        | (refine wpListIn_store_mid rfl 56 (.tmp 7) (.tmp 20) (by rfl) w2.heap.size 0 x.2.L.toArray (by rfl) (by rfl) (by exact (HF2.out w2).1) (ent_sizeG _) (all_oneCell_toArray (ent_ones _)) ?_
           obtain ⟨w4, hw4⟩ : ∃ w4, w4 = World.setCells (w2.alloc (.cells e0.L.toArray 56)) w2.heap.size 0 x.2.L.toArray.toList := ⟨_, rfl⟩
           change wpListIn (Fence.wide.inRound l) _ Try.prog _ _ _ _ (World.setCells (w2.alloc (.cells e0.L.toArray 56)) w2.heap.size 0 x.2.L.toArray.toList)
           rw [← hw4]
           have H4 := Lib.hid ((HF2.out w2).2 w4 hw4)
           clear hw4 HF2))
      have m4 : Mod no X w4 := H2.out.1.and_then H4.out.1
      refine HA.out.2.2 _ _ (from_mod m4 (fun _ _ c => c)) (kp_no m4) ⟨HA.out.1.mod m4 (notB_no _ _) (by have := HI.out.2.2; omega) HR.out HS.out.1, HA.out.2.1.mod m4 (fun c => c)⟩ ⟨X.heap.size, ?_, H2.out.2.1.mod H4.out.1 (fun c => c), ?_, ?_⟩
      · exact HA.out.1.sz
      · rw [← H2.out.2.2]; exact H4.out.2
      · rw [← H2.out.2.2]; rfl
    case body =>
      rintro l pre x a' X hl ⟨r, hr⟩ ⟨hNB, hbx⟩ ⟨Bk, hBk, bK, bE, rfl⟩ hlt
      obtain ⟨v, hbv, hrow⟩ := hNB.rv
      obtain ⟨A, c, hv⟩ := own_form hrow
      obtain ⟨nn, hnn⟩ : ∃ nn, nn = (seen T i ++ pre).length := ⟨_, rfl⟩
      rw [← hnn] at hv
      subst hv
      clear hnn
      have c0 : X.cell? ⟨h0, 0, none⟩ = some (.slice A nn c) := hbv.cell 0
      have HK := Lib.hid (And.intro (blk_range bK) (blk_range bE))
      have mA : Mod no X (X.alloc (.cells (pairL x).toArray 58)) := (Mod.refl no X).alloc _
      have hlen : (seen T i ++ pre).length ≤ 17179869184 := by
        have h1 := seen_len HBD.out (Nat.le_of_lt HI.out.1)
        have h2 := HBD.out i HI.out.1
        have h3 := HI.out.1
        rw [List.length_append]
        omega
      obtain ⟨v', w6, hrun, hr6, hg6, ho6⟩ := kv_append (X.alloc (.cells (pairL x).toArray 58)) (b := X.heap.size) (x := x) 77 (hrow.mod mA (fun _ _ c => c)) (Blk.new X 58 (pairL x).toArray) hlen (by have := hbv.lt; simp; omega)
      have hadd := (hNB.mod mA (notB_no _ _) (by have := HI.out.2.2; omega) HR.out HS.out.1).add (i := i) (b0 := b0) (hbv.mod mA (fun c => c)) (hrow.mod mA (fun _ _ c => c)) hg6 hr6 ho6 (by have := HI.out.2.2; omega) HR.out HS.out.1 HI.out.1 (hbx.mod mA (fun c => c))
      have h6b : Blk w6 h0 77 #[.slice A nn c] := (hbv.mod mA (fun c => c)).mod (S := fun k => (Value.slice A nn c).ownBlock = some k) (Mod.of_grown hg6 (fun _ _ e => e)) (fun e => by have := (hrow.own e).1; omega)
      have c6 := h6b.cell 0
      have f6 := h6b.free 0
      have HE := Lib.hid (show KeepsFrom W1.heap.size X (w6.setCell ⟨h0, 0, none⟩ v') ∧ KpT (fun k => Rs i k ∨ k = b0) X (w6.setCell ⟨h0, 0, none⟩ v') ∧ (NA w g h0 (small R w) T P Rs (seen T i ++ (pre ++ [x])) W1.heap.size Ds (w6.setCell ⟨h0, 0, none⟩ v') ∧ Blk (w6.setCell ⟨h0, 0, none⟩ v') b0 100 #[.pointer (some ⟨P i, 0, none⟩)]) from ⟨(from_mod mA (fun _ _ c => c)).trans hadd.1, kpT_t (kp_no mA) hadd.2.1, by rw [← List.append_assoc]; exact hadd.2.2.1, hadd.2.2.2⟩)
      have HRUN := Lib.hid hrun
      obtain ⟨A', cc', hv'⟩ := own_form hr6
      obtain ⟨nn', hnn'⟩ : ∃ nn', nn' = (seen T i ++ pre ++ [x]).length := ⟨_, rfl⟩
      rw [← hnn'] at hv'
      subst hv'
      clear hnn'
      clear hTM1 hwf hN1 hBX hsz hs1 hNB hbx hrow bK bE hl hr hlt hlen hrun hr6 hg6 ho6 hadd mA hbv h6b
      gi_wp2_with (first
        | (refine wpListIn_load_mid (by rfl) 39 (.tmp 6) (by rfl) Bk 0 (by rfl) x.1.L _ (by exact HK.out.1) Try.underlying39 rfl (key_sizeG x.1.len) ?_)
        | (refine wpListIn_load_mid (by rfl) 56 (.tmp 7) (by rfl) (Bk + 1) 0 (by rfl) x.2.L _ (by exact HK.out.2) Try.underlying56 rfl (ent_sizeG x.2) ?_)
        | (refine wpListIn_yield (by rfl) (by rfl) (by rintro c hc; cases hc) (y_keyedp (k := x.1) (e := x.2) rfl rfl rfl) ?_)
        | (refine wpListIn_yield (by rfl) (by rfl) (by rintro c hc; cases hc) (y_kvslice (x := (x.1, x.2)) rfl rfl) ?_)
        | (refine wpListIn_yield (by rfl) (by rfl) (by rintro c hc; cases hc) (y_kvapp rfl rfl rfl HRUN.out) ?_))
      exact HE.out
    case done =>
      rintro D xs X hD rfl ⟨hNB, _⟩ hK
      have hDs := (Array.getElem?_eq_some_iff.1 hK).1
      have hN2 : NA w g h0 (small R w) T P Rs (seen T (i + 1)) X.heap.size ({ target := .collected D, args := #[] } :: Ds) X := by
        rw [seen_succ]
        exact ⟨hNB.ix, hNB.rv, ⟨D, by omega, hDs, rfl, hK, hNB.mks.mono hD⟩, hNB.lo, Nat.le_refl _⟩
      have HE := Lib.hid (And.intro hN2 (show h0 + 1 ≤ X.heap.size by omega))
      clear hNB hK hD hDs hN2 hTM1 hwf hN1 hBX hsz hs1
      gi_wp2_with fail
      exact ⟨⟨i + 1, _, _, _, _, _, _, _, _, _, _, _, _, _, _, _, _, _, HI.out.1, HE.out.1, HE.out.2, rfl⟩, by have := HI.out.1; show 16 - ((i : Int) + 1).toNat < 16 - ((i : Int)).toNat; omega⟩
    case stop =>
      rintro D c pre X _ _ h _
      exact h.elim
  · obtain rfl : i = 16 := by omega
    have g1 : ¬ ((16 : Nat) : Int) < 16 := by omega
    obtain ⟨v, hbv, hrow⟩ := hNB.rv
    have hlen := seen_len HBD.out (Nat.le_refl 16)
    obtain ⟨A, c, hv⟩ := own_form hrow
    obtain ⟨nn, hnn⟩ : ∃ nn, nn = (seen T 16).length := ⟨_, rfl⟩
    rw [← hnn] at hv
    subst hv
    clear hnn
    have c0 : W.cell? ⟨h0, 0, none⟩ = some (.slice A nn c) := hbv.cell 0
    have HN := Lib.hid (And.intro hNB (And.intro hbv (And.intro hrow hlen)))
    clear hNB hsz hlt hi hbv hrow hlen
    gi_wp2_with (first
      | (refine ⟨trivial, ?_⟩; gi_at_call 60; refine (callsIn_wide.2 (HSO.out W _ _ _ HN.out.2.2.1 HN.out.2.2.2)).mono ?_; rintro e w7 ⟨rfl, l', hp, hsd, hr7, hm7⟩; have H7 := Lib.hid (And.intro hp (And.intro hsd (And.intro hr7 hm7))); clear hp hsd hr7 hm7))
    have hfar : ∀ k, (Value.slice A nn c).ownBlock = some k → h0 + 1 ≤ k := fun k e => (HN.out.2.2.1.own e).1
    have hmk := HN.out.1.mks.mod H7.out.2.2.2 (fun k _ hko e => by
      obtain ⟨_, cur, hcc⟩ := HN.out.2.2.1.own e
      rw [show W.heap[k]? = _ from hcc] at hko; cases hko)
    refine leaves_marks (lo := h0) hmk ?_ ?_
    · have := HN.out.2.1.lt; have := H7.out.2.2.2.size; omega
    · rintro W' hW' hC'
      have hb' := hC' _ _ _ (HN.out.2.1.mod H7.out.2.2.2 (fun e => by have := hfar _ e; omega))
      have hr' : KvRow W' (h0 + 1) (.slice A nn c) l' := by
        refine ⟨H7.out.2.2.1.1, ?_⟩
        rcases H7.out.2.2.1.2 with h2 | ⟨g', cap, cur, h1, h2, h3, h4⟩
        · exact .inl h2
        · exact .inr ⟨g', cap, cur, h1, h2, hC' _ _ _ h3, h4⟩
      exact ⟨_, results_tmp rfl _ _ _, h0, _, l', rfl, HS.out.1, hb', hr', by have := H7.out.1; rw [seen_all] at this; exact this, H7.out.2.1, Mod.of_new ((HN.out.1.lo.trans (H7.out.2.2.2.below HN.out.1.lo.size (fun k _ e => by have := hfar k e; have := HS.out.1; omega))).trans (hW'.mono HS.out.1))⟩
end Go.Proofs.Ytknbehjhaaidoaa.IX

/- An index's All: the contract of its iterator. -/
namespace Go.Proofs.Ytknbehjhaaidoaa.IX
open Go.RowKit Go.Shelf Mem HD TB
set_option linter.unusedVariables false
set_option linter.unusedSimpArgs false
attribute [local go_sem] Oper.semAt_some
theorem y_ixkv {a : Act} {o : Oper} {w : World} {x y : Operand} {b off n c p : Nat} (ho : o.op = .indexAddr 77 x y) (hx : a.eval x = .slice (some ⟨b, off, none⟩) n c) (hy : a.eval y = .int .i64 (p : Int)) (hp : p < n) : (execOp a.eval o).run Try.prog w = .ok (.value (.pointer (some ⟨b, off + p * 36, none⟩))) w := by
  have hp0 : (0 : Int) ≤ (p : Int) := by omega
  have hpi : (p : Int) < (n : Int) := by omega
  have ha : (⟨b, off, none⟩ : Addr).add (p * 36) = ⟨b, off + p * 36, none⟩ := add_plain _ _ _
  generalize a.eval = ev at hx hy
  unfold execOp
  simp only [ho, hx, hy]
  go_simp
theorem pair_key {w : World} {b o : Nat} {x : Key × Ent} (h : w.rangeAt b o (pairL x)) : w.rangeAt b o x.1.L ∧ w.rangeAt b (o + 32) x.2.L := by
  refine ⟨fun j v hv => h j v ?_, fun j v hv => ?_⟩
  · have hj := (List.getElem?_eq_some_iff.1 hv).1
    show (x.1.L ++ x.2.L)[j]? = some v
    rw [List.getElem?_append_left hj]
    exact hv
  · have h1 := h (32 + j) v (by
      show (x.1.L ++ x.2.L)[32 + j]? = some v
      rw [List.getElem?_append_right (by rw [Key.len]; omega), Key.len, show 32 + j - 32 = j by omega]
      exact hv)
    rw [show o + 32 + j = o + (32 + j) by omega]
    exact h1
def A2 (J : List (Key × Ent) → World → Prop) (b : Nat) (cur : Array Value) (l : List (Key × Ent)) (v7 : Value) (wr : World) : Prop :=
  ∃ j : Nat, j ≤ l.length ∧ v7 = .int .i64 (j : Int) ∧ J (l.take j) wr ∧ (0 < l.length → Blk wr b 58 cur)
set_option maxRecDepth 100000 in
set_option maxHeartbeats 4000000 in
theorem all2_stops {w : World} {hL base n : Nat} {v : Value} {l : List (Key × Ent)} (hB : Blk w hL 77 #[v]) (hr : KvRow w base v l) (hl : l.length ≤ 17179869184) (hn : 2 ≤ n) :
    SeqStopsK Fence.wide n Try.prog 62 #[.pointer (some ⟨hL, 0, none⟩)] (fun x : Key × Ent => #[.agg x.1.L.toArray, .agg x.2.L.toArray]) (KpT fun k => v.ownBlock = some k) (fun xs => xs = l) (fun pre => pre <+: l) l.length w := fun loop J Jx W hW hJ hJx hY h0 => by
  have hBW : Blk W hL 77 #[v] := (hW.block _ hB.lt).trans hB
  have hkat := hr.kat
  obtain ⟨A, c, hv, hrd⟩ := hkat
  obtain ⟨b, cur, hbc, hrow⟩ : ∃ b cur, (0 < l.length → v.ownBlock = some b ∧ A = some ⟨b, 0, none⟩ ∧ Blk W b 58 cur) ∧ ∀ X : World, Blk X b 58 cur → ∀ (i : Nat) (x : Key × Ent), l[i]? = some x → X.rangeAt b (i * 36) (pairL x) := by
    rcases hr.2 with ⟨h1, h2⟩ | ⟨g, cap, cur, h1, h2, h3, h4, h5, h6, h7⟩
    · exact ⟨0, #[], fun h => by omega, fun X _ i x hx => by have := (List.getElem?_eq_some_iff.1 hx).1; omega⟩
    · refine ⟨g, cur, fun _ => ⟨by rw [h1]; rfl, ?_, (hW.block _ (Blk.lt (show Blk w g 58 cur from h3))).trans h3⟩, fun X hX i x hx j u hu => ?_⟩
      · rw [h1] at hv; injection hv with e _ _; exact e.symm
      · have hj := (List.getElem?_eq_some_iff.1 hu).1
        rw [pairL_len] at hj
        have hf := flat_get (sz := 36) (l.map pairL) i (pairL x) (pairL_all l) (by rw [List.getElem?_map, hx]; rfl) j u hu
        rw [← h7, List.getElem?_take] at hf
        rw [hX.cell]
        split at hf
        · simpa using hf
        · cases hf
  have c0 : W.cell? ⟨hL, 0, none⟩ = some (.slice A l.length c) := by rw [← hv]; exact hBW.cell 0
  have HY := Lib.hid hY
  have HJ := Lib.hid (And.intro hJ (And.intro hJx h0))
  have HB := Lib.hid (And.intro hbc hrow)
  have HL := Lib.hid hl
  clear hB hr hW hJ hJx hY h0 hBW hv hrd hbc hrow hl
  refine callsIn_of_wp Try.func62 rfl trivial ?_ rfl
  simp only [Try.ntmps62, List.size_toArray, List.length_cons, List.length_nil, Nat.reduceAdd, Nat.reduceSub, Array.replicate_succ, Array.replicate_zero, List.push_toArray, List.append_toArray, List.nil_append, List.cons_append]
  gi_wp2_with fail
  gi_loopw [7] (A2 J b cur l) (fun v _ => l.length - (intOf v).toNat)
  case atStart => exact ⟨0, Nat.zero_le _, rfl, HJ.out.2.2, fun h => (HB.out.1 h).2.2⟩
  case round =>
    clear c0
    obtain ⟨j, hj, rfl, hJj, hBj⟩ := hrel
    by_cases hlt : j < l.length
    · obtain ⟨x, hx⟩ : ∃ x, l[j]? = some x := ⟨_, List.getElem?_eq_getElem hlt⟩
      have hBj := hBj (by omega)
      obtain ⟨hob, rfl, _⟩ := HB.out.1 (by omega)
      have hR := HB.out.2 wr hBj j x hx
      have HI := Lib.hid (And.intro hlt (And.intro hx (And.intro hJj (And.intro hBj (And.intro hob hR)))))
      have g1 : (j : Int) < (l.length : Int) := by omega
      have HM := Lib.hid (show l.length - ((j : Int) + 1).toNat < l.length - ((j : Int)).toNat by omega)
      have w1' : wrap64 ((j : Int) + 1) = (j : Int) + 1 := IntWalk.wrap64_in _ (by have := HL.out; omega)
      have HW := Lib.hid w1'
      have htk : l.take (j + 1) = l.take j ++ [x] := by rw [List.take_add_one, hx]; rfl
      have HQ := Lib.hid (show l.take j ++ [x] <+: l from by rw [← htk]; exact List.take_prefix _ _)
      have HQL := Lib.hid (show (l.take j).length < l.length from by rw [List.length_take]; omega)
      have HTK := Lib.hid htk
      have hth : World.there (wr.alloc (.cells (kvL none).toArray 58)) wr.heap.size 0 (pairL x).toArray.size := blk_there (Blk.new wr 58 (kvL none).toArray) 0 _ (by rw [List.size_toArray, List.size_toArray, pairL_len, kvL_len]; decide)
      have HTH := Lib.hid hth
      have HF := Lib.hid (show ∀ w2, w2 = World.setCells (wr.alloc (.cells (kvL none).toArray 58)) wr.heap.size 0 (pairL x).toArray.toList → Mod no wr w2 ∧ w2.rangeAt wr.heap.size 0 x.1.L ∧ w2.rangeAt wr.heap.size 32 x.2.L from fun w2 hw2 => by
        subst hw2
        have h1 := pair_key (World.rangeAt_setCells_same (wr.alloc (.cells (kvL none).toArray 58)) wr.heap.size 0 (pairL x) (by rw [List.size_toArray] at hth; exact hth))
        exact ⟨mod_setCells (fun c => absurd c (Nat.lt_irrefl _)) _ _ _ ((Mod.refl no wr).alloc _), h1.1, by have := h1.2; rw [Nat.zero_add] at this; exact this⟩)
      clear hJj hBj hj hlt hx hob hR htk hth
      gi_wp2_with (first
        | (refine wpListIn_yield (by rfl) (by rfl) (by rintro c hc; cases hc) (y_ixkv (p := j) rfl rfl rfl HI.out.1) ?_)
        | (refine wpListIn_load_mid rfl 58 (.tmp 9) (by rfl) b (0 + j * 36) (by rfl) (pairL x) _ (by rw [Nat.zero_add]; exact HI.out.2.2.2.2.2) Try.underlying58 rfl (keyed_sizeG (pairL_len x)) ?_)
        | (refine wpListIn_store_mid rfl 58 (.tmp 4) (.tmp 10) (by rfl) wr.heap.size 0 (pairL x).toArray (by rfl) (by rfl) (by exact HTH.out) (by rw [List.size_toArray]; exact keyed_sizeG (pairL_len x)) (all_oneCell_toArray (pairL_ones x)) ?_
           obtain ⟨w2, hw2⟩ : ∃ w2, w2 = World.setCells (wr.alloc (.cells (kvL none).toArray 58)) wr.heap.size 0 (pairL x).toArray.toList := ⟨_, rfl⟩
           change wpListIn Fence.wide n Try.prog _ _ _ _ (World.setCells (wr.alloc (.cells (kvL none).toArray 58)) wr.heap.size 0 (pairL x).toArray.toList)
           rw [← hw2]
           have H2 := Lib.hid (HF.out w2 hw2)
           clear hw2 HF HTH
           obtain ⟨fn, tmps, assign, body, hy, hR⟩ := HY.out (l.take j) x w2 (abides_mod HJ.out.1 HI.out.2.2.1 H2.out.1) HQL.out
           (try dsimp only at hy))
        | (refine wpListIn_load_mid (by rfl) 39 (.tmp 12) (by rfl) wr.heap.size 0 (by rfl) x.1.L _ (by exact H2.out.2.1) Try.underlying39 rfl (key_sizeG x.1.len) ?_)
        | (refine wpListIn_load_mid (by rfl) 56 (.tmp 14) (by rfl) wr.heap.size 32 (by rfl) x.2.L _ (by exact H2.out.2.2) Try.underlying56 rfl (ent_sizeG x.2) ?_))
      refine ⟨fun c => (by cases c), ?_⟩
      refine hR.mono ?_
      rintro e W5 (⟨rfl, hJ5, hk5⟩ | ⟨rfl, hx5⟩)
      · gi_wp2_with fail
        go_roundw
        case rel => exact ⟨j + 1, HI.out.1, by go_num, by rw [HTK.out]; exact hJ5, fun _ => hk5 _ _ _ (.inl HI.out.2.2.2.2.1) (HI.out.2.2.2.1.mod H2.out.1 (fun c => c))⟩
        case measure =>
          rw [HW.out]
          exact HM.out
      · gi_wp2_with fail
        refine bodyPost_ret (results_none rfl _ _ _) rfl ?_
        exact ⟨⟨_, rfl⟩, .inr ⟨_, HQ.out, hx5⟩⟩
    · obtain rfl : j = l.length := by omega
      have g1 : ¬ (l.length : Int) < (l.length : Int) := by omega
      have HI := Lib.hid (show J l wr by have := hJj; rw [List.take_length] at this; exact this)
      clear hJj hBj hj hlt
      gi_wp2_with fail
      go_end0
      exact ⟨⟨_, rfl⟩, .inl HI.out⟩
end Go.Proofs.Ytknbehjhaaidoaa.IX

