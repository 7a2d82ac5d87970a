/- An index: New. -/
import Derived.Test.YtknbehjhaaidoaaIxD
namespace Go.Proofs.Ytknbehjhaaidoaa.IX
open Go.RowKit Mem HD TB
set_option linter.unusedVariables false
set_option linter.unusedSimpArgs false
def t8 : Tab Key Ent := ⟨List.replicate 8 .empty, none, 0⟩
def part (P : Nat → Nat) (i : Nat) : Array Value := ((List.range 16).map fun j => if j < i then Value.pointer (some ⟨P j, 0, none⟩) else .pointer none).toArray
theorem part_all (P : Nat → Nat) : part P 16 = ptrs P := by
  unfold part ptrs
  congr 1
theorem part_size (P : Nat → Nat) (i : Nat) : (part P i).size = 16 := by unfold part; simp
theorem part_get (P : Nat → Nat) (i j : Nat) : (part P i)[j]? = if j < 16 then some (if j < i then Value.pointer (some ⟨P j, 0, none⟩) else .pointer none) else none := by
  unfold part
  rw [List.getElem?_toArray, List.getElem?_map]
  by_cases h : j < 16
  · rw [List.getElem?_range h, if_pos h]; rfl
  · rw [if_neg h, List.getElem?_eq_none (by simp; omega)]; rfl
theorem part_set (P : Nat → Nat) {i : Nat} (hi : i < 16) (p : Nat) : (part P i).setIfInBounds i (.pointer (some ⟨p, 0, none⟩)) = part (fun j => if j = i then p else P j) (i + 1) := by
  apply Array.ext_getElem?
  intro j
  rw [Array.getElem?_setIfInBounds, part_size, part_get, part_get]
  by_cases e : i = j
  · subst e; simp [hi]
  · rw [if_neg e]
    by_cases h : j < 16
    · rw [if_pos h, if_pos h]
      by_cases e2 : j < i
      · rw [if_pos e2, if_pos (by omega), if_neg (fun c => e c.symm)]
      · rw [if_neg e2, if_neg (by omega)]
    · rw [if_neg h, if_neg h]
theorem wp_store_pt {o : Oper} {a : Act} {w : World} {K : Act → World → Prop} {Q : Exit → Act → World → Prop} {x y : Operand} {b i p : Nat} {cs : Array Value} (ho : o.op = .store 100 x y) (hx : a.eval x = .pointer (some ⟨b, i, none⟩)) (hy : a.eval y = .pointer (some ⟨p, 0, none⟩)) (hb : Blk w b 103 cs) (hi : i < cs.size)
    (h : K (a.put o.dst undef) (w.setCell ⟨b, i, none⟩ (.pointer (some ⟨p, 0, none⟩)))) : o.wp Try.prog a w K Q := by
  have hc : w.cell? ⟨b, i, none⟩ = some cs[i] := (hb.cell i).trans (Array.getElem?_eq_getElem hi)
  have hf := hb.free i
  unfold Oper.wp execOp
  simp only [ho, hx, hy]
  go_simp
  exact h
/-- Behind i rounds. -/
def NI (w : World) (g : Nat) (v : Value) (w' : World) : Prop := ∃ (i : Nat) (P : Nat → Nat) (Rs : Nat → Nat → Prop), i ≤ 16 ∧ v = .int .i64 (i : Int) ∧ Blk w' g 103 (part P i) ∧ (∀ j, j < i → TabAt w' (P j) (Rs j) t8) ∧ (∀ j, j < i → ∀ x, Rs j x → g < x ∧ x < w'.heap.size) ∧ (∀ j l, j < i → l < i → j ≠ l → ∀ x, Rs j x → ¬ Rs l x) ∧ Mod no w w'
/-- One round more. -/
theorem NI_step {w wr w5 : World} {g i p : Nat} {P : Nat → Nat} {Rs : Nat → Nat → Prop} (hg : g = w.heap.size) (hi : i < 16) (hb : Blk wr g 103 (part P i)) (ht : ∀ j, j < i → TabAt wr (P j) (Rs j) t8) (hr : ∀ j, j < i → ∀ x, Rs j x → g < x ∧ x < wr.heap.size) (ha : ∀ j l, j < i → l < i → j ≠ l → ∀ x, Rs j x → ¬ Rs l x) (hm : Mod no w wr)
    (htt : TabAt w5 p (fun k => wr.drew.heap.size ≤ k ∧ k < w5.heap.size) t8) (hm5 : Mod no wr.drew w5) : NI w g (.int .i64 ((i : Int) + 1)) (w5.setCell ⟨g, i, none⟩ (.pointer (some ⟨p, 0, none⟩))) := by
  have h5 : Mod no wr w5 := (Mod.refl no wr).drew.and_then hm5
  have hgl := hb.lt
  have hs5 := h5.size
  have h6 : Mod (one g) w5 (w5.setCell ⟨g, i, none⟩ (.pointer (some ⟨p, 0, none⟩))) := Mod.set (S := one g) (p := ⟨g, i, none⟩) (Mod.refl _ w5) (fun _ => rfl) _
  have hs6 := h6.size
  have e : wr.drew.heap.size = wr.heap.size := rfl
  refine ⟨i + 1, fun j => if j = i then p else P j, fun j => if j = i then (fun k => wr.drew.heap.size ≤ k ∧ k < w5.heap.size) else Rs j, hi, rfl, ?_, fun j hj => ?_, fun j hj x hx => ?_, fun j l hj hl hne x hx => ?_, ?_⟩
  · rw [← part_set P hi p]; exact (hb.mod h5 (fun c => c)).put i _
  · by_cases c : j = i
    · simp only [if_pos c]; exact htt.mod h6 (fun x hx d => by have d : x = g := d; omega)
    · simp only [if_neg c]; exact ((ht j (by omega)).mod h5 (fun _ _ d => d)).mod h6 (fun x hx d => by have d : x = g := d; have := hr j (by omega) x hx; omega)
  · by_cases c : j = i
    · simp only [if_pos c] at hx; omega
    · simp only [if_neg c] at hx; have := hr j (by omega) x hx; omega
  · by_cases c : j = i
    · have cl : ¬ l = i := fun d => hne (c.trans d.symm)
      simp only [if_pos c] at hx; simp only [if_neg cl]
      exact fun d => by have := hr l (by omega) x d; omega
    · simp only [if_neg c] at hx
      by_cases cl : l = i
      · simp only [if_pos cl]; have := hr j (by omega) x hx; omega
      · simp only [if_neg cl]; exact ha j l (by omega) (by omega) hne x hx
  · exact (hm.and_then h5).set (fun c => by have c : g < w.heap.size := c; omega) _
set_option maxRecDepth 100000 in
theorem ixnew_any (w : World) : Calls Try.prog 19 #[] w fun e w' => ∃ g P Rs, e = .returned (.pointer (some ⟨g, 0, none⟩)) ∧ IxAt w' g (fun k => w.heap.size ≤ k ∧ k < w'.heap.size) (fun _ => t8) P Rs ∧ Mod no w w' := by
  go_enter Try.func19, Try.ntmps19
  go_upto_region 2 with fail
  obtain ⟨w1, hw1⟩ : ∃ w1, w1 = w.alloc (.cells (part (fun _ => 0) 0) 103) := ⟨_, rfl⟩
  have hb : Blk w1 w.heap.size 103 (part (fun _ => 0) 0) := by rw [hw1]; exact Blk.new _ _ _
  have hm : Mod no w w1 := by rw [hw1]; exact (Mod.refl no w).alloc _
  change Code.wp _ _ _ _ (w.alloc (.cells (part (fun _ => 0) 0) 103))
  rw [← hw1]
  clear hw1
  obtain ⟨g, hg⟩ : ∃ g, g = w.heap.size := ⟨_, rfl⟩
  rw [← hg] at hb ⊢
  have H1 := Lib.hid (And.intro hb (And.intro hm hg))
  clear hb hm hg
  go_wp2_with fail
  go_loopw [5] (NI w g) (fun v _ => 16 - (intOf v).toNat)
  case atStart => exact ⟨0, fun _ => 0, fun _ _ => False, by omega, rfl, H1.out.1, fun j hj => by omega, fun j hj => by omega, fun j l hj => by omega, H1.out.2.1⟩
  case round =>
    obtain ⟨i, P, Rs, hi, rfl, hb, ht, hr, ha, hm⟩ := hrel
    by_cases hlt : i < 16
    · have g1 : (i : Int) < 16 := by omega
      have HL := Lib.hid (And.intro hlt (And.intro hb (And.intro ht (And.intro hr (And.intro ha hm)))))
      clear hlt hb ht hr ha hm hi
      go_upto_region 5 with fail
      refine wp_region_held_drew (S := fun _ => True) (by kernel_rfl) trivial (fun hHeld => ?_)
      refine takeD (i := 0) (d := some 8) (v := (.pointer (some ⟨g, 0, none⟩))) rfl (by kernel_rfl) (by kernel_rfl) (by kernel_rfl) rfl (fun _ _ _ h => h) (Or.inl ⟨by kernel_rfl, fun w9 hw => y_move rfl rfl⟩) hHeld ?_
      simp only [Act.put, List.setIfInBounds_toArray, List.set_cons_zero, List.set_cons_succ]
      refine takeD (i := 1) (d := some 9) (v := (.int .i64 (i : Int))) rfl (by kernel_rfl) (by kernel_rfl) (by kernel_rfl) rfl (fun _ _ _ h => h) (Or.inl ⟨by kernel_rfl, fun w9 hw => y_move rfl rfl⟩) hHeld ?_
      simp only [Act.put, List.setIfInBounds_toArray, List.set_cons_zero, List.set_cons_succ]
      refine takeD (i := 3) (d := some 11) (v := (.pointer (some ⟨g, 0, none⟩))) rfl (by kernel_rfl) (by kernel_rfl) (by kernel_rfl) rfl (fun _ _ _ h => h) (Or.inl ⟨by kernel_rfl, fun w9 hw => y_nil rfl rfl⟩) hHeld ?_
      simp only [Act.put, List.setIfInBounds_toArray, List.set_cons_zero, List.set_cons_succ]
      refine takeD (i := 4) (d := some 12) (v := (.pointer (some ⟨g, 0, none⟩))) rfl (by kernel_rfl) (by kernel_rfl) (by kernel_rfl) rfl (fun _ _ _ h => h) (Or.inl ⟨by kernel_rfl, fun w9 hw => y_xt rfl rfl⟩) hHeld ?_
      simp only [Act.put, List.setIfInBounds_toArray, List.set_cons_zero, List.set_cons_succ]
      refine readyD (i := 2) (d := some 10) rfl (by kernel_rfl) rfl (by kernel_rfl) fun K hK => ?_
      refine op_c1 (fun _ _ => rfl) rfl rfl (new_any) ?_
      rintro e w5 ⟨p, rfl, htt, hm5⟩
      have H5 := Lib.hid (And.intro htt hm5)
      clear htt hm5
      refine ⟨_, rfl, hK _ _ trivial fun hHeld9 => ?_⟩
      clear hK K hHeld
      have hHeld := hHeld9
      clear hHeld9
      simp only [Act.put, List.setIfInBounds_toArray, List.set_cons_zero, List.set_cons_succ]
      refine takeD (i := 5) (d := some 13) (v := (.pointer (some ⟨g, i, none⟩))) rfl (by kernel_rfl) (by kernel_rfl) (by kernel_rfl) rfl (fun _ _ _ h => h) (Or.inl ⟨by kernel_rfl, fun w9 hw => y_xi rfl rfl rfl HL.out.1⟩) hHeld ?_
      simp only [Act.put, List.setIfInBounds_toArray, List.set_cons_zero, List.set_cons_succ]
      refine readyD (i := 6) (d := none) rfl (by kernel_rfl) rfl (by kernel_rfl) fun K hK => ?_
      refine wp_store_pt (b := g) (i := i) (p := p) rfl rfl rfl ((show Blk _ g 103 (part P i) from HL.out.2.1.drew).mod H5.out.2 (fun c => c)) (by rw [part_size]; exact HL.out.1) ?_
      refine hK _ _ trivial fun _ => ?_
      clear hK K hHeld
      simp only [Act.put, List.setIfInBounds_toArray, List.set_cons_zero, List.set_cons_succ]
      refine wpAnyH_done (by kernel_rfl) ?_ _
      go_wp2_with fail
      exact ⟨NI_step H1.out.2.2 HL.out.1 HL.out.2.1 HL.out.2.2.1 HL.out.2.2.2.1 HL.out.2.2.2.2.1 HL.out.2.2.2.2.2 H5.out.1 H5.out.2, by have := HL.out.1; show 16 - ((i : Int) + 1).toNat < 16 - ((i : Int)).toNat; omega⟩
    · obtain rfl : i = 16 := by omega
      have g1 : ¬ ((16 : Nat) : Int) < 16 := by omega
      have HL := Lib.hid (And.intro hb (And.intro ht (And.intro hr (And.intro ha hm))))
      clear hlt hb ht hr ha hm hi
      go_wp2_with fail
      go_ret
      refine ⟨g, rfl, ⟨P, Rs, ?_⟩, HL.out.2.2.2.2⟩
      have hg := H1.out.2.2
      refine ⟨by rw [← part_all]; exact HL.out.1, HL.out.2.1, fun _ _ => new_wf hash, fun _ _ k v hm => (nomatch hm), HL.out.2.2.2.1, fun j hj c => by have := HL.out.2.2.1 j hj g c; omega, fun j hj x hx => by have := HL.out.2.2.1 j hj x hx; exact ⟨⟨by omega, this.2⟩, this.2⟩, by omega, HL.out.1.lt⟩
end Go.Proofs.Ytknbehjhaaidoaa.IX

