/- An index: Sizes, Len. -/
import Derived.Test.YtknbehjhaaidoaaIxE
namespace Go.Proofs.Ytknbehjhaaidoaa.IX
open Go.RowKit Mem HD TB
set_option linter.unusedVariables false
set_option linter.unusedSimpArgs false
def szL (f : Nat → Nat) (i : Nat) : List Value := (List.range 16).map fun j => Value.int .i64 (if j < i then (f j : Int) else 0)
theorem szL_len (f : Nat → Nat) (i : Nat) : (szL f i).length = 16 := by unfold szL; simp
theorem szL_get (f : Nat → Nat) (i j : Nat) : (szL f i)[j]? = if j < 16 then some (.int .i64 (if j < i then (f j : Int) else 0)) else none := by
  unfold szL
  rw [List.getElem?_map]
  by_cases h : j < 16
  · rw [List.getElem?_range h, if_pos h]; rfl
  · rw [if_neg h, List.getElem?_eq_none (by simp; omega)]; rfl
theorem szL_set (f : Nat → Nat) {i : Nat} (hi : i < 16) : (szL f i).toArray.setIfInBounds i (.int .i64 (f i : Int)) = (szL f (i + 1)).toArray := by
  rw [List.setIfInBounds_toArray]
  congr 1
  apply List.ext_getElem?
  intro j
  rw [List.getElem?_set, szL_len, szL_get, szL_get]
  by_cases e : i = j
  · subst e; simp [hi]
  · rw [if_neg e]
    by_cases h : j < 16
    · rw [if_pos h, if_pos h]
      by_cases e2 : j < i
      · rw [if_pos e2, if_pos (by omega)]
      · rw [if_neg e2, if_neg (by omega)]
    · rw [if_neg h, if_neg h]
theorem szL_ones (f : Nat → Nat) (i : Nat) : ∀ v ∈ szL f i, v.oneCell' = true := fun v hv => by
  obtain ⟨j, _, rfl⟩ := List.mem_map.1 hv
  rfl
theorem int16_sizeG {C : List Value} (h : C.length = 16) : (Try.prog.info? 108).map (·.size) = some C.length := by
  rw [h]; kernel_rfl
theorem arr16_sizeG {C : List Value} (h : C.length = 16) : (Try.prog.info? 101).map (·.size) = some C.length := by
  rw [h]; kernel_rfl
def ptrL (P : Nat → Nat) : List Value := (List.range 16).map fun i => Value.pointer (some ⟨P i, 0, none⟩)
theorem ptrL_len (P : Nat → Nat) : (ptrL P).length = 16 := by unfold ptrL; simp
section
variable {w : World} {a : Act} {o : Oper}
theorem y_ixp {x y : Operand} {P : Nat → Nat} {i : Nat} (ho : o.op = .index 101 x y) (hx : a.eval x = .agg (ptrL P).toArray) (hy : a.eval y = .int .i64 (i : Int)) (hi : i < 16) : (execOp a.eval o).run Try.prog w = .ok (.value (.pointer (some ⟨P i, 0, none⟩))) w := by
  have hp0 : (0 : Int) ≤ (i : Int) := by omega
  have hpi : (i : Int) < (16 : Int) := by omega
  have hg : (ptrL P)[i]? = some (.pointer (some ⟨P i, 0, none⟩)) := by rw [← List.getElem?_toArray]; exact ptrs_get P hi
  have hs : (ptrL P).length = 16 := ptrL_len P
  generalize a.eval = ev at hx hy
  unfold execOp
  simp only [ho, hx, hy]
  simp only [Instr.index, asIntOf, Sem.run_bind, Sem.run_pure, Result.andThen_ok, run_underlying Try.underlying101, hp0, hpi, true_and, and_self, if_true]
  go_simp
  exact (List.getElem?_eq_some_iff.1 hg).2
theorem y_ixi {x y : Operand} {f : Nat → Nat} {i : Nat} (ho : o.op = .index 108 x y) (hx : a.eval x = .agg (szL f 16).toArray) (hy : a.eval y = .int .i64 (i : Int)) (hi : i < 16) : (execOp a.eval o).run Try.prog w = .ok (.value (.int .i64 (f i : Int))) w := by
  have hp0 : (0 : Int) ≤ (i : Int) := by omega
  have hpi : (i : Int) < (16 : Int) := by omega
  have hg : (szL f 16)[i]? = some (.int .i64 (f i : Int)) := by rw [szL_get, if_pos hi, if_pos hi]
  have hs : (szL f 16).length = 16 := szL_len f 16
  generalize a.eval = ev at hx hy
  unfold execOp
  simp only [ho, hx, hy]
  simp only [Instr.index, asIntOf, Sem.run_bind, Sem.run_pure, Result.andThen_ok, run_underlying Try.underlying108, hp0, hpi, true_and, and_self, if_true]
  go_simp
  exact (List.getElem?_eq_some_iff.1 hg).2
end
def S2 (w : World) : World := (w.alloc (.cells (szL (fun _ => 0) 0).toArray 108)).alloc (.cells (szL (fun _ => 0) 0).toArray 108)
theorem szL_zero (f : Nat → Nat) : szL f 0 = szL (fun _ => 0) 0 := by
  unfold szL
  exact List.map_congr_left fun j _ => by rw [if_neg (by omega), if_neg (by omega)]
theorem s2_facts (w : World) (f : Nat → Nat) : Mod no w (S2 w) ∧ Blk (S2 w) w.heap.size 108 (szL f 0).toArray ∧ Blk (S2 w) (w.heap.size + 1) 108 (szL f 0).toArray := by
  rw [szL_zero f]
  exact ⟨((Mod.refl no w).alloc _).alloc _, (Blk.new w 108 _).alloc _, Blk.new_at (w.alloc (.cells (szL (fun _ => 0) 0).toArray 108)) 108 _ (by simp)⟩
/-- The tables' lengths added up. -/
def sumT (T : Nat → Tab Key Ent) (i : Nat) : Nat := ((List.range i).map fun j => (T j).L.length).sum
theorem sumT_all (T : Nat → Tab Key Ent) : sumT T 16 = (IL T).length := by unfold sumT IL; rw [List.length_flatMap]
theorem sumT_succ (T : Nat → Tab Key Ent) (i : Nat) : sumT T (i + 1) = sumT T i + (T i).L.length := by unfold sumT; rw [List.range_succ]; simp
theorem sumT_le (T : Nat → Tab Key Ent) (B : Nat) : ∀ i, (∀ j, j < i → (T j).L.length < B) → sumT T i ≤ i * B
  | 0, _ => by simp [sumT]
  | i + 1, h => by
    rw [sumT_succ, Nat.succ_mul]
    have h1 := sumT_le T B i (fun j hj => h j (by omega))
    have h2 := h i (by omega)
    omega
/-- Behind i rounds. -/
def SI (w : World) (b : Nat) (f : Nat → Nat) (v : Value) (w' : World) : Prop := ∃ i : Nat, i ≤ 16 ∧ v = .int .i64 (i : Int) ∧ Blk w' b 108 (szL f i).toArray ∧ Mod (one b) w w'
set_option maxRecDepth 100000 in
theorem ixsizes_any {w : World} {g : Nat} {R : Nat → Prop} {T : Nat → Tab Key Ent} {P : Nat → Nat} {Rs : Nat → Nat → Prop} (h : IxAt w g R T P Rs) : Calls Try.prog 56 #[.pointer (some ⟨g, 0, none⟩)] w fun e w' => e = .returned (.agg (szL (fun i => (T i).L.length) 16).toArray) ∧ Mod no w w' := by
  obtain ⟨f, hf⟩ : ∃ f : Nat → Nat, f = fun i => (T i).L.length := ⟨_, rfl⟩
  have hw := s2_facts w f
  have HF := Lib.hid (show ∀ i, f i = (T i).L.length from fun i => by rw [hf])
  rw [← hf]
  clear hf
  have HA := Lib.hid (And.intro ((h.small).mod hw.1 (fun _ _ c => c)) hw)
  have HR := Lib.hid (show ∀ x, small R w x → x < w.heap.size from fun x hx => hx.2)
  clear h hw
  go_enter Try.func56, Try.ntmps56
  go_upto_region 3 with (first
    | (go_at_call 53; refine (there_any HA.out.1).mono ?_; rintro e w' ⟨rfl, rfl⟩))
  obtain ⟨w2, hw2⟩ : ∃ w2, w2 = S2 w := ⟨_, rfl⟩
  rw [← hw2] at HA ⊢
  obtain ⟨h0, hh0⟩ : ∃ h0, h0 = w.heap.size := ⟨_, rfl⟩
  rw [← hh0] at HA HR ⊢
  have HH := Lib.hid (And.intro hh0 (show ∀ j, w.heap.size ≤ j → ¬ j < w.heap.size from fun j hj => Nat.not_lt.2 hj))
  clear hh0 hw2
  go_wp2_with (first
    | (refine wpList_op rfl (y_mid (cs := ptrL P) rfl rfl (blk_range HA.out.1.b) Try.underlying101 rfl (arr16_sizeG (ptrL_len P))) ?_))
  go_loopw [12] (SI w2 (h0 + 1) f) (fun v _ => 16 - (intOf v).toNat)
  case atStart => exact ⟨0, by omega, rfl, HA.out.2.2.2, Mod.refl _ _⟩
  case round =>
    obtain ⟨i, hi, rfl, hb, hm⟩ := hrel
    have hx := HA.out.1.mod hm (fun x hx c => by have c : x = h0 + 1 := c; have := HR.out x hx; omega)
    have HI := Lib.hid (And.intro hb (And.intro hm hx))
    by_cases hlt : i < 16
    · have g1 : (i : Int) < 16 := by omega
      have c0 : wr.cell? ⟨h0 + 1, i, none⟩ = some (.int .i64 0) := by rw [hb.cell, List.getElem?_toArray, szL_get, if_pos hlt, if_neg (by omega)]
      have f0 := hb.free i
      have HL := Lib.hid hlt
      clear hb hm hx hlt hi
      go_wp2_with (first
        | (refine wpList_op rfl (y_ixp (P := P) (i := i) rfl rfl rfl HL.out) ?_)
        | (go_at_call 91; refine (len_any (HI.out.2.2.t i HL.out) (HI.out.2.2.wf i HL.out)).mono ?_; rintro e w' ⟨rfl, rfl⟩))
      have e1 := HF.out i
      refine ⟨⟨i + 1, HL.out, rfl, ?_, ?_⟩, ?_⟩
      · rw [← szL_set f HL.out, HF.out i]; exact HI.out.1.put i _
      · exact Mod.set (S := one (h0 + 1)) (p := ⟨h0 + 1, i, none⟩) HI.out.2.1 (fun _ => rfl) _
      · have := HL.out; show 16 - ((i : Int) + 1).toNat < 16 - ((i : Int)).toNat; omega
    · obtain rfl : i = 16 := by omega
      have g1 : ¬ ((16 : Nat) : Int) < 16 := by omega
      have hr := HA.out.2.2.1.mod hm (fun c => by have c : h0 = h0 + 1 := c; omega)
      have HE := Lib.hid hr
      clear hb hm hx hlt hi hr
      go_wp2_with (first
        | (refine wpList_op rfl (y_mid (cs := szL f 16) rfl rfl (blk_range HI.out.1) Try.underlying108 rfl (int16_sizeG (szL_len f 16))) ?_)
        | (refine wpList_store_mid rfl 108 (.tmp 2) (.tmp 21) rfl h0 0 (szL f 16).toArray rfl rfl (blk_there HE.out 0 _ (by simp [szL_len])) (by simpa using int16_sizeG (szL_len f 16)) (by simpa using szL_ones f 16) ?_))
      exact bodyPost_ret (v := .agg (szL f 16).toArray) (results_cell_row (p := 2) (ty := 108) rfl _ _ h0 108 (szL f 16).toArray (0, 0) _ rfl (by have h1 := blk_sets h0 (szL f 16) 0 (szL f 0) _ HE.out (by simp [szL_len]); have h1 : Blk _ _ _ _ := h1; rw [show (szL f 0).take 0 ++ szL f 16 ++ (szL f 0).drop (0 + (szL f 16).length) = szL f 16 from by simp [szL_len, List.drop_of_length_le]] at h1; exact h1) Try.underlying108 rfl (by simpa using int16_sizeG (szL_len f 16))) rfl ⟨rfl, mod_setCells (S := no) (fun c => absurd c (by rw [HH.out.1]; exact HH.out.2 _ (Nat.le_refl _))) _ _ _ (HA.out.2.1.trans HI.out.2.1 (fun k hk c => by have c : k = h0 + 1 := c; have := HH.out.1; omega))⟩
set_option maxRecDepth 100000 in
theorem ixlen_any {w : World} {g : Nat} {R : Nat → Prop} {T : Nat → Tab Key Ent} {P : Nat → Nat} {Rs : Nat → Nat → Prop} (h : IxAt w g R T P Rs) (hb : ∀ i, i < 16 → (T i).L.length < 1073741824) : Calls Try.prog 21 #[.pointer (some ⟨g, 0, none⟩)] w fun e w' => e = .returned (.int .i64 ((IL T).length : Int)) ∧ Mod no w w' := by
  have HA := Lib.hid h
  have HB := Lib.hid hb
  clear h hb
  go_enter Try.func21, Try.ntmps21
  go_wp2_with (first
    | (go_at_call 56; refine (ixsizes_any HA.out).mono ?_; rintro e w1 ⟨rfl, hm⟩; have HM := Lib.hid hm; clear hm))
  go_loopw [3, 8] (fun v3 v8 w' => ∃ i : Nat, i ≤ 16 ∧ v8 = .int .i64 (i : Int) ∧ v3 = .int .i64 ((sumT T i : Nat) : Int) ∧ w' = w1) (fun _ v8 _ => 16 - (intOf v8).toNat)
  case atStart => exact ⟨0, by omega, rfl, rfl, rfl⟩
  case round =>
    obtain ⟨i, hi, rfl, rfl, rfl⟩ := hrel
    have hs := sumT_le T 1073741824 i (fun j hj => HB.out j (by omega))
    by_cases hlt : i < 16
    · have g1 : (i : Int) < 16 := by omega
      have h2 := HB.out i hlt
      have hw : wrap64 (((sumT T i : Nat) : Int) + ((T i).L.length : Int)) = ((sumT T i : Nat) : Int) + ((T i).L.length : Int) := IntWalk.wrap64_in _ (by omega)
      have HL := Lib.hid hlt
      clear hlt hi hs h2
      go_wp2_with (first
        | (refine wpList_op rfl (y_ixi (f := fun i => (T i).L.length) (i := i) rfl rfl rfl HL.out) ?_))
      have := HL.out
      exact ⟨⟨i + 1, HL.out, rfl, by rw [sumT_succ]; simp [hw], trivial⟩, by show 16 - ((i : Int) + 1).toNat < 16 - ((i : Int)).toNat; omega⟩
    · obtain rfl : i = 16 := by omega
      have g1 : ¬ ((16 : Nat) : Int) < 16 := by omega
      clear hlt hi hs
      go_wp2_with fail
      go_ret
      rw [sumT_all]
      exact ⟨rfl, HM.out⟩
end Go.Proofs.Ytknbehjhaaidoaa.IX

