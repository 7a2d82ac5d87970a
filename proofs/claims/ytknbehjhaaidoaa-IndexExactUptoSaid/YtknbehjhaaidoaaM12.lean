/- IndexExact: the texts IxE IxF IxG IxH of this seat, one behind the other. -/
import Derived.Test.YtknbehjhaaidoaaM11
import Derived.Lib.Bytealg
import Derived.Lib.BytesEntry
import Derived.Laws.Externs
/- An index: New. -/
namespace Go.Proofs.Ytknbehjhaaidoaa.IX
open Go.RowKit Mem HD TB
set_option linter.unusedVariables false
set_option linter.unusedSimpArgs false
def t8 : Tab Key Ent := ⟨List.replicate 8 .empty, none, 0⟩
def part (P : Nat → Nat) (i : Nat) : Array Value := ((List.range 16).map fun j => if j < i then Value.pointer (some ⟨P j, 0, none⟩) else .pointer none).toArray
theorem part_all (P : Nat → Nat) : part P 16 = ptrs P := by
  unfold part ptrs
  congr 1
theorem part_size (P : Nat → Nat) (i : Nat) : (part P i).size = 16 := by unfold part; simp
theorem part_get (P : Nat → Nat) (i j : Nat) : (part P i)[j]? = if j < 16 then some (if j < i then Value.pointer (some ⟨P j, 0, none⟩) else .pointer none) else none := by
  unfold part
  rw [List.getElem?_toArray, List.getElem?_map]
  by_cases h : j < 16
  · rw [List.getElem?_range h, if_pos h]; rfl
  · rw [if_neg h, List.getElem?_eq_none (by simp; omega)]; rfl
theorem part_set (P : Nat → Nat) {i : Nat} (hi : i < 16) (p : Nat) : (part P i).setIfInBounds i (.pointer (some ⟨p, 0, none⟩)) = part (fun j => if j = i then p else P j) (i + 1) := by
  apply Array.ext_getElem?
  intro j
  rw [Array.getElem?_setIfInBounds, part_size, part_get, part_get]
  by_cases e : i = j
  · subst e; simp [hi]
  · rw [if_neg e]
    by_cases h : j < 16
    · rw [if_pos h, if_pos h]
      by_cases e2 : j < i
      · rw [if_pos e2, if_pos (by omega), if_neg (fun c => e c.symm)]
      · rw [if_neg e2, if_neg (by omega)]
    · rw [if_neg h, if_neg h]
theorem wp_store_pt {o : Oper} {a : Act} {w : World} {K : Act → World → Prop} {Q : Exit → Act → World → Prop} {x y : Operand} {b i p : Nat} {cs : Array Value} (ho : o.op = .store 100 x y) (hx : a.eval x = .pointer (some ⟨b, i, none⟩)) (hy : a.eval y = .pointer (some ⟨p, 0, none⟩)) (hb : Blk w b 103 cs) (hi : i < cs.size)
    (h : K (a.put o.dst undef) (w.setCell ⟨b, i, none⟩ (.pointer (some ⟨p, 0, none⟩)))) : o.wp Try.prog a w K Q := by
  have hc : w.cell? ⟨b, i, none⟩ = some cs[i] := (hb.cell i).trans (Array.getElem?_eq_getElem hi)
  have hf := hb.free i
  unfold Oper.wp execOp
  simp only [ho, hx, hy]
  go_simp
  exact h
/-- Behind i rounds. -/
def NI (w : World) (g : Nat) (v : Value) (w' : World) : Prop := ∃ (i : Nat) (P : Nat → Nat) (Rs : Nat → Nat → Prop), i ≤ 16 ∧ v = .int .i64 (i : Int) ∧ Blk w' g 103 (part P i) ∧ (∀ j, j < i → TabAt w' (P j) (Rs j) t8) ∧ (∀ j, j < i → ∀ x, Rs j x → g < x ∧ x < w'.heap.size) ∧ (∀ j l, j < i → l < i → j ≠ l → ∀ x, Rs j x → ¬ Rs l x) ∧ Mod no w w'
/-- One round more. -/
theorem NI_step {w wr w5 : World} {g i p : Nat} {P : Nat → Nat} {Rs : Nat → Nat → Prop} (hg : g = w.heap.size) (hi : i < 16) (hb : Blk wr g 103 (part P i)) (ht : ∀ j, j < i → TabAt wr (P j) (Rs j) t8) (hr : ∀ j, j < i → ∀ x, Rs j x → g < x ∧ x < wr.heap.size) (ha : ∀ j l, j < i → l < i → j ≠ l → ∀ x, Rs j x → ¬ Rs l x) (hm : Mod no w wr)
    (htt : TabAt w5 p (fun k => wr.drew.heap.size ≤ k ∧ k < w5.heap.size) t8) (hm5 : Mod no wr.drew w5) : NI w g (.int .i64 ((i : Int) + 1)) (w5.setCell ⟨g, i, none⟩ (.pointer (some ⟨p, 0, none⟩))) := by
  have h5 : Mod no wr w5 := (Mod.refl no wr).drew.and_then hm5
  have hgl := hb.lt
  have hs5 := h5.size
  have h6 : Mod (one g) w5 (w5.setCell ⟨g, i, none⟩ (.pointer (some ⟨p, 0, none⟩))) := Mod.set (S := one g) (p := ⟨g, i, none⟩) (Mod.refl _ w5) (fun _ => rfl) _
  have hs6 := h6.size
  have e : wr.drew.heap.size = wr.heap.size := rfl
  refine ⟨i + 1, fun j => if j = i then p else P j, fun j => if j = i then (fun k => wr.drew.heap.size ≤ k ∧ k < w5.heap.size) else Rs j, hi, rfl, ?_, fun j hj => ?_, fun j hj x hx => ?_, fun j l hj hl hne x hx => ?_, ?_⟩
  · rw [← part_set P hi p]; exact (hb.mod h5 (fun c => c)).put i _
  · by_cases c : j = i
    · simp only [if_pos c]; exact htt.mod h6 (fun x hx d => by have d : x = g := d; omega)
    · simp only [if_neg c]; exact ((ht j (by omega)).mod h5 (fun _ _ d => d)).mod h6 (fun x hx d => by have d : x = g := d; have := hr j (by omega) x hx; omega)
  · by_cases c : j = i
    · simp only [if_pos c] at hx; omega
    · simp only [if_neg c] at hx; have := hr j (by omega) x hx; omega
  · by_cases c : j = i
    · have cl : ¬ l = i := fun d => hne (c.trans d.symm)
      simp only [if_pos c] at hx; simp only [if_neg cl]
      exact fun d => by have := hr l (by omega) x d; omega
    · simp only [if_neg c] at hx
      by_cases cl : l = i
      · simp only [if_pos cl]; have := hr j (by omega) x hx; omega
      · simp only [if_neg cl]; exact ha j l (by omega) (by omega) hne x hx
  · exact (hm.and_then h5).set (fun c => by have c : g < w.heap.size := c; omega) _
set_option maxRecDepth 100000 in
theorem ixnew_any (w : World) : Calls Try.prog 19 #[] w fun e w' => ∃ g P Rs, e = .returned (.pointer (some ⟨g, 0, none⟩)) ∧ IxAt w' g (fun k => w.heap.size ≤ k ∧ k < w'.heap.size) (fun _ => t8) P Rs ∧ Mod no w w' := by
  go_enter Try.func19, Try.ntmps19
  go_upto_region 2 with fail
  obtain ⟨w1, hw1⟩ : ∃ w1, w1 = w.alloc (.cells (part (fun _ => 0) 0) 103) := ⟨_, rfl⟩
  have hb : Blk w1 w.heap.size 103 (part (fun _ => 0) 0) := by rw [hw1]; exact Blk.new _ _ _
  have hm : Mod no w w1 := by rw [hw1]; exact (Mod.refl no w).alloc _
  change Code.wp _ _ _ _ (w.alloc (.cells (part (fun _ => 0) 0) 103))
  rw [← hw1]
  clear hw1
  obtain ⟨g, hg⟩ : ∃ g, g = w.heap.size := ⟨_, rfl⟩
  rw [← hg] at hb ⊢
  have H1 := Lib.hid (And.intro hb (And.intro hm hg))
  clear hb hm hg
  go_wp2_with fail
  go_loopw [5] (NI w g) (fun v _ => 16 - (intOf v).toNat)
  case atStart => exact ⟨0, fun _ => 0, fun _ _ => False, by omega, rfl, H1.out.1, fun j hj => by omega, fun j hj => by omega, fun j l hj => by omega, H1.out.2.1⟩
  case round =>
    obtain ⟨i, P, Rs, hi, rfl, hb, ht, hr, ha, hm⟩ := hrel
    by_cases hlt : i < 16
    · have g1 : (i : Int) < 16 := by omega
      have HL := Lib.hid (And.intro hlt (And.intro hb (And.intro ht (And.intro hr (And.intro ha hm)))))
      clear hlt hb ht hr ha hm hi
      go_upto_region 5 with fail
      refine wp_region_held_drew (S := fun _ => True) (by kernel_rfl) trivial (fun hHeld => ?_)
      refine takeD (i := 0) (d := some 8) (v := (.pointer (some ⟨g, 0, none⟩))) rfl (by kernel_rfl) (by kernel_rfl) (by kernel_rfl) rfl (fun _ _ _ h => h) (Or.inl ⟨by kernel_rfl, fun w9 hw => y_move rfl rfl⟩) hHeld ?_
      simp only [Act.put, List.setIfInBounds_toArray, List.set_cons_zero, List.set_cons_succ]
      refine takeD (i := 1) (d := some 9) (v := (.int .i64 (i : Int))) rfl (by kernel_rfl) (by kernel_rfl) (by kernel_rfl) rfl (fun _ _ _ h => h) (Or.inl ⟨by kernel_rfl, fun w9 hw => y_move rfl rfl⟩) hHeld ?_
      simp only [Act.put, List.setIfInBounds_toArray, List.set_cons_zero, List.set_cons_succ]
      refine takeD (i := 3) (d := some 11) (v := (.pointer (some ⟨g, 0, none⟩))) rfl (by kernel_rfl) (by kernel_rfl) (by kernel_rfl) rfl (fun _ _ _ h => h) (Or.inl ⟨by kernel_rfl, fun w9 hw => y_nil rfl rfl⟩) hHeld ?_
      simp only [Act.put, List.setIfInBounds_toArray, List.set_cons_zero, List.set_cons_succ]
      refine takeD (i := 4) (d := some 12) (v := (.pointer (some ⟨g, 0, none⟩))) rfl (by kernel_rfl) (by kernel_rfl) (by kernel_rfl) rfl (fun _ _ _ h => h) (Or.inl ⟨by kernel_rfl, fun w9 hw => y_xt rfl rfl⟩) hHeld ?_
      simp only [Act.put, List.setIfInBounds_toArray, List.set_cons_zero, List.set_cons_succ]
      refine readyD (i := 2) (d := some 10) rfl (by kernel_rfl) rfl (by kernel_rfl) fun K hK => ?_
      refine op_c1 (fun _ _ => rfl) rfl rfl (new_any) ?_
      rintro e w5 ⟨p, rfl, htt, hm5⟩
      have H5 := Lib.hid (And.intro htt hm5)
      clear htt hm5
      refine ⟨_, rfl, hK _ _ trivial fun hHeld9 => ?_⟩
      clear hK K hHeld
      have hHeld := hHeld9
      clear hHeld9
      simp only [Act.put, List.setIfInBounds_toArray, List.set_cons_zero, List.set_cons_succ]
      refine takeD (i := 5) (d := some 13) (v := (.pointer (some ⟨g, i, none⟩))) rfl (by kernel_rfl) (by kernel_rfl) (by kernel_rfl) rfl (fun _ _ _ h => h) (Or.inl ⟨by kernel_rfl, fun w9 hw => y_xi rfl rfl rfl HL.out.1⟩) hHeld ?_
      simp only [Act.put, List.setIfInBounds_toArray, List.set_cons_zero, List.set_cons_succ]
      refine readyD (i := 6) (d := none) rfl (by kernel_rfl) rfl (by kernel_rfl) fun K hK => ?_
      refine wp_store_pt (b := g) (i := i) (p := p) rfl rfl rfl ((show Blk _ g 103 (part P i) from HL.out.2.1.drew).mod H5.out.2 (fun c => c)) (by rw [part_size]; exact HL.out.1) ?_
      refine hK _ _ trivial fun _ => ?_
      clear hK K hHeld
      simp only [Act.put, List.setIfInBounds_toArray, List.set_cons_zero, List.set_cons_succ]
      refine wpAnyH_done (by kernel_rfl) ?_ _
      go_wp2_with fail
      exact ⟨NI_step H1.out.2.2 HL.out.1 HL.out.2.1 HL.out.2.2.1 HL.out.2.2.2.1 HL.out.2.2.2.2.1 HL.out.2.2.2.2.2 H5.out.1 H5.out.2, by have := HL.out.1; show 16 - ((i : Int) + 1).toNat < 16 - ((i : Int)).toNat; omega⟩
    · obtain rfl : i = 16 := by omega
      have g1 : ¬ ((16 : Nat) : Int) < 16 := by omega
      have HL := Lib.hid (And.intro hb (And.intro ht (And.intro hr (And.intro ha hm))))
      clear hlt hb ht hr ha hm hi
      go_wp2_with fail
      go_ret
      refine ⟨g, rfl, ⟨P, Rs, ?_⟩, HL.out.2.2.2.2⟩
      have hg := H1.out.2.2
      refine ⟨by rw [← part_all]; exact HL.out.1, HL.out.2.1, fun _ _ => new_wf hash, fun _ _ k v hm => (nomatch hm), HL.out.2.2.2.1, fun j hj c => by have := HL.out.2.2.1 j hj g c; omega, fun j hj x hx => by have := HL.out.2.2.1 j hj x hx; exact ⟨⟨by omega, this.2⟩, this.2⟩, by omega, HL.out.1.lt⟩
end Go.Proofs.Ytknbehjhaaidoaa.IX

/- An index: Sizes, Len. -/
namespace Go.Proofs.Ytknbehjhaaidoaa.IX
open Go.RowKit Mem HD TB
set_option linter.unusedVariables false
set_option linter.unusedSimpArgs false
def szL (f : Nat → Nat) (i : Nat) : List Value := (List.range 16).map fun j => Value.int .i64 (if j < i then (f j : Int) else 0)
theorem szL_len (f : Nat → Nat) (i : Nat) : (szL f i).length = 16 := by unfold szL; simp
theorem szL_get (f : Nat → Nat) (i j : Nat) : (szL f i)[j]? = if j < 16 then some (.int .i64 (if j < i then (f j : Int) else 0)) else none := by
  unfold szL
  rw [List.getElem?_map]
  by_cases h : j < 16
  · rw [List.getElem?_range h, if_pos h]; rfl
  · rw [if_neg h, List.getElem?_eq_none (by simp; omega)]; rfl
theorem szL_set (f : Nat → Nat) {i : Nat} (hi : i < 16) : (szL f i).toArray.setIfInBounds i (.int .i64 (f i : Int)) = (szL f (i + 1)).toArray := by
  rw [List.setIfInBounds_toArray]
  congr 1
  apply List.ext_getElem?
  intro j
  rw [List.getElem?_set, szL_len, szL_get, szL_get]
  by_cases e : i = j
  · subst e; simp [hi]
  · rw [if_neg e]
    by_cases h : j < 16
    · rw [if_pos h, if_pos h]
      by_cases e2 : j < i
      · rw [if_pos e2, if_pos (by omega)]
      · rw [if_neg e2, if_neg (by omega)]
    · rw [if_neg h, if_neg h]
theorem szL_ones (f : Nat → Nat) (i : Nat) : ∀ v ∈ szL f i, v.oneCell' = true := fun v hv => by
  obtain ⟨j, _, rfl⟩ := List.mem_map.1 hv
  rfl
theorem int16_sizeG {C : List Value} (h : C.length = 16) : (Try.prog.info? 108).map (·.size) = some C.length := by
  rw [h]; kernel_rfl
theorem arr16_sizeG {C : List Value} (h : C.length = 16) : (Try.prog.info? 101).map (·.size) = some C.length := by
  rw [h]; kernel_rfl
def ptrL (P : Nat → Nat) : List Value := (List.range 16).map fun i => Value.pointer (some ⟨P i, 0, none⟩)
theorem ptrL_len (P : Nat → Nat) : (ptrL P).length = 16 := by unfold ptrL; simp
section
variable {w : World} {a : Act} {o : Oper}
theorem y_ixp {x y : Operand} {P : Nat → Nat} {i : Nat} (ho : o.op = .index 101 x y) (hx : a.eval x = .agg (ptrL P).toArray) (hy : a.eval y = .int .i64 (i : Int)) (hi : i < 16) : (execOp a.eval o).run Try.prog w = .ok (.value (.pointer (some ⟨P i, 0, none⟩))) w := by
  have hp0 : (0 : Int) ≤ (i : Int) := by omega
  have hpi : (i : Int) < (16 : Int) := by omega
  have hg : (ptrL P)[i]? = some (.pointer (some ⟨P i, 0, none⟩)) := by rw [← List.getElem?_toArray]; exact ptrs_get P hi
  have hs : (ptrL P).length = 16 := ptrL_len P
  generalize a.eval = ev at hx hy
  unfold execOp
  simp only [ho, hx, hy]
  simp only [Instr.index, asIntOf, Sem.run_bind, Sem.run_pure, Result.andThen_ok, run_underlying Try.underlying101, hp0, hpi, true_and, and_self, if_true]
  go_simp
  exact (List.getElem?_eq_some_iff.1 hg).2
theorem y_ixi {x y : Operand} {f : Nat → Nat} {i : Nat} (ho : o.op = .index 108 x y) (hx : a.eval x = .agg (szL f 16).toArray) (hy : a.eval y = .int .i64 (i : Int)) (hi : i < 16) : (execOp a.eval o).run Try.prog w = .ok (.value (.int .i64 (f i : Int))) w := by
  have hp0 : (0 : Int) ≤ (i : Int) := by omega
  have hpi : (i : Int) < (16 : Int) := by omega
  have hg : (szL f 16)[i]? = some (.int .i64 (f i : Int)) := by rw [szL_get, if_pos hi, if_pos hi]
  have hs : (szL f 16).length = 16 := szL_len f 16
  generalize a.eval = ev at hx hy
  unfold execOp
  simp only [ho, hx, hy]
  simp only [Instr.index, asIntOf, Sem.run_bind, Sem.run_pure, Result.andThen_ok, run_underlying Try.underlying108, hp0, hpi, true_and, and_self, if_true]
  go_simp
  exact (List.getElem?_eq_some_iff.1 hg).2
end
def S2 (w : World) : World := (w.alloc (.cells (szL (fun _ => 0) 0).toArray 108)).alloc (.cells (szL (fun _ => 0) 0).toArray 108)
theorem szL_zero (f : Nat → Nat) : szL f 0 = szL (fun _ => 0) 0 := by
  unfold szL
  exact List.map_congr_left fun j _ => by rw [if_neg (by omega), if_neg (by omega)]
theorem s2_facts (w : World) (f : Nat → Nat) : Mod no w (S2 w) ∧ Blk (S2 w) w.heap.size 108 (szL f 0).toArray ∧ Blk (S2 w) (w.heap.size + 1) 108 (szL f 0).toArray := by
  rw [szL_zero f]
  exact ⟨((Mod.refl no w).alloc _).alloc _, (Blk.new w 108 _).alloc _, Blk.new_at (w.alloc (.cells (szL (fun _ => 0) 0).toArray 108)) 108 _ (by simp)⟩
/-- The tables' lengths added up. -/
def sumT (T : Nat → Tab Key Ent) (i : Nat) : Nat := ((List.range i).map fun j => (T j).L.length).sum
theorem sumT_all (T : Nat → Tab Key Ent) : sumT T 16 = (IL T).length := by unfold sumT IL; rw [List.length_flatMap]
theorem sumT_succ (T : Nat → Tab Key Ent) (i : Nat) : sumT T (i + 1) = sumT T i + (T i).L.length := by unfold sumT; rw [List.range_succ]; simp
theorem sumT_le (T : Nat → Tab Key Ent) (B : Nat) : ∀ i, (∀ j, j < i → (T j).L.length < B) → sumT T i ≤ i * B
  | 0, _ => by simp [sumT]
  | i + 1, h => by
    rw [sumT_succ, Nat.succ_mul]
    have h1 := sumT_le T B i (fun j hj => h j (by omega))
    have h2 := h i (by omega)
    omega
/-- Behind i rounds. -/
def SI (w : World) (b : Nat) (f : Nat → Nat) (v : Value) (w' : World) : Prop := ∃ i : Nat, i ≤ 16 ∧ v = .int .i64 (i : Int) ∧ Blk w' b 108 (szL f i).toArray ∧ Mod (one b) w w'
set_option maxRecDepth 100000 in
theorem ixsizes_any {w : World} {g : Nat} {R : Nat → Prop} {T : Nat → Tab Key Ent} {P : Nat → Nat} {Rs : Nat → Nat → Prop} (h : IxAt w g R T P Rs) : Calls Try.prog 56 #[.pointer (some ⟨g, 0, none⟩)] w fun e w' => e = .returned (.agg (szL (fun i => (T i).L.length) 16).toArray) ∧ Mod no w w' := by
  obtain ⟨f, hf⟩ : ∃ f : Nat → Nat, f = fun i => (T i).L.length := ⟨_, rfl⟩
  have hw := s2_facts w f
  have HF := Lib.hid (show ∀ i, f i = (T i).L.length from fun i => by rw [hf])
  rw [← hf]
  clear hf
  have HA := Lib.hid (And.intro ((h.small).mod hw.1 (fun _ _ c => c)) hw)
  have HR := Lib.hid (show ∀ x, small R w x → x < w.heap.size from fun x hx => hx.2)
  clear h hw
  go_enter Try.func56, Try.ntmps56
  go_upto_region 3 with (first
    | (go_at_call 53; refine (there_any HA.out.1).mono ?_; rintro e w' ⟨rfl, rfl⟩))
  obtain ⟨w2, hw2⟩ : ∃ w2, w2 = S2 w := ⟨_, rfl⟩
  rw [← hw2] at HA ⊢
  obtain ⟨h0, hh0⟩ : ∃ h0, h0 = w.heap.size := ⟨_, rfl⟩
  rw [← hh0] at HA HR ⊢
  have HH := Lib.hid (And.intro hh0 (show ∀ j, w.heap.size ≤ j → ¬ j < w.heap.size from fun j hj => Nat.not_lt.2 hj))
  clear hh0 hw2
  go_wp2_with (first
    | (refine wpList_op rfl (y_mid (cs := ptrL P) rfl rfl (blk_range HA.out.1.b) Try.underlying101 rfl (arr16_sizeG (ptrL_len P))) ?_))
  go_loopw [12] (SI w2 (h0 + 1) f) (fun v _ => 16 - (intOf v).toNat)
  case atStart => exact ⟨0, by omega, rfl, HA.out.2.2.2, Mod.refl _ _⟩
  case round =>
    obtain ⟨i, hi, rfl, hb, hm⟩ := hrel
    have hx := HA.out.1.mod hm (fun x hx c => by have c : x = h0 + 1 := c; have := HR.out x hx; omega)
    have HI := Lib.hid (And.intro hb (And.intro hm hx))
    by_cases hlt : i < 16
    · have g1 : (i : Int) < 16 := by omega
      have c0 : wr.cell? ⟨h0 + 1, i, none⟩ = some (.int .i64 0) := by rw [hb.cell, List.getElem?_toArray, szL_get, if_pos hlt, if_neg (by omega)]
      have f0 := hb.free i
      have HL := Lib.hid hlt
      clear hb hm hx hlt hi
      go_wp2_with (first
        | (refine wpList_op rfl (y_ixp (P := P) (i := i) rfl rfl rfl HL.out) ?_)
        | (go_at_call 91; refine (len_any (HI.out.2.2.t i HL.out) (HI.out.2.2.wf i HL.out)).mono ?_; rintro e w' ⟨rfl, rfl⟩))
      have e1 := HF.out i
      refine ⟨⟨i + 1, HL.out, rfl, ?_, ?_⟩, ?_⟩
      · rw [← szL_set f HL.out, HF.out i]; exact HI.out.1.put i _
      · exact Mod.set (S := one (h0 + 1)) (p := ⟨h0 + 1, i, none⟩) HI.out.2.1 (fun _ => rfl) _
      · have := HL.out; show 16 - ((i : Int) + 1).toNat < 16 - ((i : Int)).toNat; omega
    · obtain rfl : i = 16 := by omega
      have g1 : ¬ ((16 : Nat) : Int) < 16 := by omega
      have hr := HA.out.2.2.1.mod hm (fun c => by have c : h0 = h0 + 1 := c; omega)
      have HE := Lib.hid hr
      clear hb hm hx hlt hi hr
      go_wp2_with (first
        | (refine wpList_op rfl (y_mid (cs := szL f 16) rfl rfl (blk_range HI.out.1) Try.underlying108 rfl (int16_sizeG (szL_len f 16))) ?_)
        | (refine wpList_store_mid rfl 108 (.tmp 2) (.tmp 21) rfl h0 0 (szL f 16).toArray rfl rfl (blk_there HE.out 0 _ (by simp [szL_len])) (by simpa using int16_sizeG (szL_len f 16)) (by simpa using szL_ones f 16) ?_))
      exact bodyPost_ret (v := .agg (szL f 16).toArray) (results_cell_row (p := 2) (ty := 108) rfl _ _ h0 108 (szL f 16).toArray (0, 0) _ rfl (by have h1 := blk_sets h0 (szL f 16) 0 (szL f 0) _ HE.out (by simp [szL_len]); have h1 : Blk _ _ _ _ := h1; rw [show (szL f 0).take 0 ++ szL f 16 ++ (szL f 0).drop (0 + (szL f 16).length) = szL f 16 from by simp [szL_len, List.drop_of_length_le]] at h1; exact h1) Try.underlying108 rfl (by simpa using int16_sizeG (szL_len f 16))) rfl ⟨rfl, mod_setCells (S := no) (fun c => absurd c (by rw [HH.out.1]; exact HH.out.2 _ (Nat.le_refl _))) _ _ _ (HA.out.2.1.trans HI.out.2.1 (fun k hk c => by have c : k = h0 + 1 := c; have := HH.out.1; omega))⟩
set_option maxRecDepth 100000 in
theorem ixlen_any {w : World} {g : Nat} {R : Nat → Prop} {T : Nat → Tab Key Ent} {P : Nat → Nat} {Rs : Nat → Nat → Prop} (h : IxAt w g R T P Rs) (hb : ∀ i, i < 16 → (T i).L.length < 1073741824) : Calls Try.prog 21 #[.pointer (some ⟨g, 0, none⟩)] w fun e w' => e = .returned (.int .i64 ((IL T).length : Int)) ∧ Mod no w w' := by
  have HA := Lib.hid h
  have HB := Lib.hid hb
  clear h hb
  go_enter Try.func21, Try.ntmps21
  go_wp2_with (first
    | (go_at_call 56; refine (ixsizes_any HA.out).mono ?_; rintro e w1 ⟨rfl, hm⟩; have HM := Lib.hid hm; clear hm))
  go_loopw [3, 8] (fun v3 v8 w' => ∃ i : Nat, i ≤ 16 ∧ v8 = .int .i64 (i : Int) ∧ v3 = .int .i64 ((sumT T i : Nat) : Int) ∧ w' = w1) (fun _ v8 _ => 16 - (intOf v8).toNat)
  case atStart => exact ⟨0, by omega, rfl, rfl, rfl⟩
  case round =>
    obtain ⟨i, hi, rfl, rfl, rfl⟩ := hrel
    have hs := sumT_le T 1073741824 i (fun j hj => HB.out j (by omega))
    by_cases hlt : i < 16
    · have g1 : (i : Int) < 16 := by omega
      have h2 := HB.out i hlt
      have hw : wrap64 (((sumT T i : Nat) : Int) + ((T i).L.length : Int)) = ((sumT T i : Nat) : Int) + ((T i).L.length : Int) := IntWalk.wrap64_in _ (by omega)
      have HL := Lib.hid hlt
      clear hlt hi hs h2
      go_wp2_with (first
        | (refine wpList_op rfl (y_ixi (f := fun i => (T i).L.length) (i := i) rfl rfl rfl HL.out) ?_))
      have := HL.out
      exact ⟨⟨i + 1, HL.out, rfl, by rw [sumT_succ]; simp [hw], trivial⟩, by show 16 - ((i : Int) + 1).toNat < 16 - ((i : Int)).toNat; omega⟩
    · obtain rfl : i = 16 := by omega
      have g1 : ¬ ((16 : Nat) : Int) < 16 := by omega
      clear hlt hi hs
      go_wp2_with fail
      go_ret
      rw [sumT_all]
      exact ⟨rfl, HM.out⟩
end Go.Proofs.Ytknbehjhaaidoaa.IX

/- Keys in their order; bytes.Compare of two keys; a table's All. -/
namespace Go.Proofs.Ytknbehjhaaidoaa.IX
open Go.RowKit Go.Shelf Mem HD TB
set_option linter.unusedVariables false
set_option linter.unusedSimpArgs false
theorem cmpB_zero : ∀ a b : List UInt8, Lib.compareBytes a b = 0 ↔ a = b
  | [], [] => by simp [Lib.compareBytes]
  | [], _ :: _ => by simp [Lib.compareBytes]
  | _ :: _, [] => by simp [Lib.compareBytes]
  | x :: a, y :: b => by
    have ih := cmpB_zero a b
    unfold Lib.compareBytes
    by_cases h : x < y
    · rw [if_pos h]
      constructor
      · intro c; omega
      · intro c; injection c with c _; exact absurd (c ▸ h) (UInt8.lt_irrefl _)
    · rw [if_neg h]
      by_cases h2 : y < x
      · rw [if_pos h2]
        constructor
        · intro c; omega
        · intro c; injection c with c _; exact absurd (c ▸ h2) (UInt8.lt_irrefl _)
      · rw [if_neg h2, ih]
        have e : x = y := UInt8.le_antisymm (UInt8.not_lt.1 h2) (UInt8.not_lt.1 h)
        rw [e]; simp
theorem cmpB_swap : ∀ a b : List UInt8, Lib.compareBytes b a = - Lib.compareBytes a b
  | [], [] => by simp [Lib.compareBytes]
  | [], _ :: _ => by simp [Lib.compareBytes]
  | _ :: _, [] => by simp [Lib.compareBytes]
  | x :: a, y :: b => by
    have ih := cmpB_swap a b
    unfold Lib.compareBytes
    by_cases h : x < y
    · have h2 : ¬ y < x := fun c => UInt8.lt_irrefl _ (UInt8.lt_trans h c)
      rw [if_pos h, if_neg h2, if_pos h]; rfl
    · by_cases h2 : y < x
      · rw [if_pos h2, if_neg h, if_pos h2]
      · rw [if_neg h2, if_neg h, if_neg h, if_neg h2, ih]
theorem cmpB_trans : ∀ a b c : List UInt8, Lib.compareBytes a b < 0 → Lib.compareBytes b c < 0 → Lib.compareBytes a c < 0
  | [], [], c, h, _ => by simp [Lib.compareBytes] at h
  | [], _ :: _, [], _, h => by simp [Lib.compareBytes] at h
  | [], _ :: _, _ :: _, _, _ => by simp [Lib.compareBytes]
  | _ :: _, [], c, h, _ => by simp [Lib.compareBytes] at h
  | _ :: _, _ :: _, [], _, h => by simp [Lib.compareBytes] at h
  | x :: a, y :: b, z :: c, h, h' => by
    have ih := cmpB_trans a b c
    unfold Lib.compareBytes at h h' ⊢
    by_cases xz : x < z
    · rw [if_pos xz]; decide
    · rw [if_neg xz]
      by_cases xy : x < y
      · by_cases yz : y < z
        · exact absurd (UInt8.lt_trans xy yz) xz
        · rw [if_neg yz] at h'
          by_cases zy : z < y
          · rw [if_pos zy] at h'; omega
          · have e : y = z := UInt8.le_antisymm (UInt8.not_lt.1 zy) (UInt8.not_lt.1 yz)
            exact absurd (e ▸ xy) xz
      · rw [if_neg xy] at h
        by_cases yx : y < x
        · rw [if_pos yx] at h; omega
        · rw [if_neg yx] at h
          have e : x = y := UInt8.le_antisymm (UInt8.not_lt.1 yx) (UInt8.not_lt.1 xy)
          subst e
          by_cases zx : z < x
          · rw [if_neg xz, if_pos zx] at h'; omega
          · rw [if_neg xz, if_neg zx] at h'
            rw [if_neg zx]
            exact ih h h'
/-- A key is ahead of another one. -/
def klt (a b : Key) : Prop := Lib.compareBytes a.1 b.1 < 0
instance (a b : Key) : Decidable (klt a b) := inferInstanceAs (Decidable (Lib.compareBytes a.1 b.1 < 0))
theorem klt_trans {a b c : Key} (h : klt a b) (h' : klt b c) : klt a c := cmpB_trans _ _ _ h h'
theorem klt_irrefl (a : Key) : ¬ klt a a := fun h => by
  have := (cmpB_zero a.1 a.1).2 rfl
  unfold klt at h; omega
theorem klt_asymm {a b : Key} (h : klt a b) : ¬ klt b a := fun h' => klt_irrefl _ (klt_trans h h')
theorem klt_tri (a b : Key) : klt a b ∨ a = b ∨ klt b a := by
  have h := cmpB_swap a.1 b.1
  have z := cmpB_zero a.1 b.1
  unfold klt
  by_cases c : Lib.compareBytes a.1 b.1 = 0
  · exact .inr (.inl (Subtype.ext (z.1 c)))
  · omega
theorem klt_gt (a b : Key) : Lib.compareBytes a.1 b.1 > 0 ↔ klt b a := by
  have h := cmpB_swap a.1 b.1
  unfold klt
  omega
theorem loadKey {w : World} {b off : Nat} {k : Key} (h : w.rangeAt b off k.L) (n c : Nat) (hn : n = 32) : (Extern.Bytes.bytesOf (.slice (some ⟨b, off, none⟩) n c)).run Try.prog w = .ok ⟨k.1.toArray⟩ w := by
  subst hn
  have hx : Lib.bytesOf (k.1.map fun b => (b.toNat : Int)) = k.1 := by
    unfold Lib.bytesOf
    rw [List.map_map]
    conv => rhs; rw [← List.map_id k.1]
    exact List.map_congr_left fun b _ => by simp
  have hl := Lib.run_loadBytesX (P := Try.prog) w (k.1.map fun b => (b.toNat : Int)) ⟨b, off, none⟩ .empty (fun j x hj => by
    rw [add_plain]
    rw [List.getElem?_map] at hj
    cases hk : k.1[j]? with
    | none => rw [hk] at hj; cases hj
    | some y =>
      rw [hk] at hj
      injection hj with hj
      subst hj
      refine h j _ ?_
      unfold Key.L kOf
      rw [List.getElem?_map, hk]
      rfl)
  rw [hx, List.length_map, k.2] at hl
  show (Extern.Bytes.loadBytes _ _ _).run Try.prog w = _
  rw [hl]
  simp
theorem run_compareKeys {w : World} {b o c b' o' c' : Nat} {k k' : Key} (h : w.rangeAt b o k.L) (h' : w.rangeAt b' o' k'.L) :
    (Extern.BytealgCompare.compare #[.slice (some ⟨b, o, none⟩) 32 c, .slice (some ⟨b', o', none⟩) 32 c']).run Try.prog w = .ok (.int .i64 (Lib.compareBytes k.1 k'.1)) w := by
  change Sem.run Try.prog (do pure (goInt (Extern.BytealgCompare.cmp (← Extern.Bytes.bytesOf (.slice (some ⟨b, o, none⟩) 32 c)) (← Extern.Bytes.bytesOf (.slice (some ⟨b', o', none⟩) 32 c'))))) w = _
  simp only [Sem.run_bind, Sem.run_pure, Result.andThen, loadKey h 32 c rfl, loadKey h' 32 c' rfl]
  rw [Lib.cmp_eq]
  rfl
set_option maxRecDepth 100000 in
theorem compare_any {w : World} {b o c b' o' c' : Nat} {k k' : Key} (h : w.rangeAt b o k.L) (h' : w.rangeAt b' o' k'.L) :
    Calls Try.prog 58 #[.slice (some ⟨b, o, none⟩) 32 c, .slice (some ⟨b', o', none⟩) 32 c'] w fun e w' => e = .returned (.int .i64 (Lib.compareBytes k.1 k'.1)) ∧ w' = w := by
  have HR := Lib.hid (And.intro h h')
  clear h h'
  go_enter Try.func58, Try.ntmps58
  go_wp2_with fail
  rw [run_callFunc_extern Try.func93 (by kernel_rfl) (by kernel_rfl) (by kernel_rfl) (e := Extern.BytealgCompare.compare) (by kernel_rfl), run_compareKeys HR.out.1 HR.out.2]
  simp only [Result.andThen]
  rw [Oper.upon_value]
  go_wp2_with fail
  go_ret
  exact ⟨rfl, rfl⟩
set_option maxRecDepth 100000 in
theorem all_in (n : Nat) (g : Nat) (w : World) : CallsIn Fence.wide n Try.prog 57 #[.pointer (some ⟨g, 0, none⟩)] w fun e w' => e = .returned (.func (.func 92) #[] #[.pointer (some ⟨w.heap.size, 0, none⟩)]) ∧ w' = w.alloc (.cells #[.pointer (some ⟨g, 0, none⟩)] 100) := by
  refine callsIn_of_wp Try.func57 rfl trivial ?_ rfl
  simp only [Try.ntmps57, List.size_toArray, List.length_cons, List.length_nil, Nat.reduceAdd, Nat.reduceSub, Array.replicate_succ, Array.replicate_zero, List.push_toArray, List.append_toArray, List.nil_append, List.cons_append]
  gi_wp2_with fail
  go_ret
  exact ⟨rfl, rfl⟩
end Go.Proofs.Ytknbehjhaaidoaa.IX

/- What Next tells: the least key above one; marks among the deferred calls. -/
namespace Go.Proofs.Ytknbehjhaaidoaa.IX
open Go.RowKit Go.Shelf Mem HD TB
set_option linter.unusedVariables false
set_option linter.unusedSimpArgs false
/-- Is a key asked for? -/
def asked (any : Bool) (after k : Key) : Bool := any || decide (Lib.compareBytes k.1 after.1 > 0)
def tst (any : Bool) (after : Key) (b : Option (Key × Ent)) (k : Key) : Bool := asked any after k && (match b with
  | none => true
  | some y => decide (Lib.compareBytes k.1 y.1.1 < 0))
def pick1 (any : Bool) (after : Key) (b : Option (Key × Ent)) (x : Key × Ent) : Option (Key × Ent) := if tst any after b x.1 = true then some x else b
def best (any : Bool) (after : Key) (l : List (Key × Ent)) : Option (Key × Ent) := l.foldl (pick1 any after) none
theorem best_snoc (any : Bool) (after : Key) (l : List (Key × Ent)) (x : Key × Ent) : best any after (l ++ [x]) = pick1 any after (best any after l) x := by
  unfold best; rw [List.foldl_append]; rfl
theorem asked_iff {any : Bool} {after k : Key} : asked any after k = true ↔ any = true ∨ klt after k := by
  unfold asked
  rw [Bool.or_eq_true, decide_eq_true_iff, klt_gt]
/-- The best one is asked for, and none that is asked for is less. -/
def Best (any : Bool) (after : Key) (l : List (Key × Ent)) : Option (Key × Ent) → Prop
  | none => ∀ x ∈ l, ¬ asked any after x.1 = true
  | some y => y ∈ l ∧ asked any after y.1 = true ∧ ∀ x ∈ l, asked any after x.1 = true → ¬ klt x.1 y.1
theorem best_spec (any : Bool) (after : Key) : ∀ (l l' : List (Key × Ent)) (b : Option (Key × Ent)), Best any after l' b → Best any after (l' ++ l) (l.foldl (pick1 any after) b)
  | [], l', b, h => by simpa using h
  | x :: l, l', b, h => by
    have h1 : Best any after (l' ++ [x]) (pick1 any after b x) := by
      unfold pick1
      by_cases c : tst any after b x.1 = true
      · rw [if_pos c]
        unfold tst at c
        rw [Bool.and_eq_true] at c
        refine ⟨by simp, c.1, fun z hz ha => ?_⟩
        rcases List.mem_append.1 hz with hz | hz
        · cases b with
          | none => exact absurd ha (h z hz)
          | some y =>
            have c2 : klt x.1 y.1 := decide_eq_true_iff.1 c.2
            exact fun hl => h.2.2 z hz ha (klt_trans hl c2)
        · rw [List.mem_singleton.1 hz]; exact klt_irrefl _
      · rw [if_neg c]
        unfold tst at c
        rw [Bool.and_eq_true] at c
        cases b with
        | none =>
          intro z hz ha
          rcases List.mem_append.1 hz with hz | hz
          · exact h z hz ha
          · rw [List.mem_singleton.1 hz] at ha; exact c ⟨ha, rfl⟩
        | some y =>
          refine ⟨List.mem_append.2 (.inl h.1), h.2.1, fun z hz ha => ?_⟩
          rcases List.mem_append.1 hz with hz | hz
          · exact h.2.2 z hz ha
          · rw [List.mem_singleton.1 hz] at ha ⊢
            exact fun hl => c ⟨ha, decide_eq_true_iff.2 hl⟩
    have := best_spec any after l (l' ++ [x]) _ h1
    rw [List.append_assoc] at this
    exact this
theorem best_is (any : Bool) (after : Key) (l : List (Key × Ent)) : Best any after l (best any after l) := by
  have := best_spec any after l [] none (fun x hx => (nomatch hx))
  rw [List.nil_append] at this
  exact this
/-- What lies in the answer. -/
def kvL (o : Option (Key × Ent)) : List Value := (o.getD (k0, e0)).1.L ++ (o.getD (k0, e0)).2.L
theorem kvL_len (o : Option (Key × Ent)) : (kvL o).length = 36 := by unfold kvL; rw [List.length_append, Key.len, Ent.len]
theorem kvL_ones (o : Option (Key × Ent)) : ∀ v ∈ kvL o, v.oneCell' = true := fun v hv => by
  rcases List.mem_append.1 hv with hv | hv
  · exact key_ones _ v hv
  · exact ent_ones _ v hv
theorem keyed_sizeG {C : List Value} (h : C.length = 36) : (Try.prog.info? 58).map (·.size) = some C.length := by
  rw [h]; kernel_rfl
/-- The pairs of the first tables. -/
def seen (T : Nat → Tab Key Ent) (i : Nat) : List (Key × Ent) := (List.range i).flatMap fun j => (T j).L
theorem seen_all (T : Nat → Tab Key Ent) : seen T 16 = IL T := rfl
theorem seen_succ (T : Nat → Tab Key Ent) (i : Nat) : seen T (i + 1) = seen T i ++ (T i).L := by unfold seen; rw [List.range_succ, List.flatMap_append]; simp
/-- Marks of loops that are over, the later ones ahead. -/
def MK : Nat → Nat → List Deferred → World → Prop
  | _, _, [], _ => True
  | lo, B, d :: ds, W => ∃ D, lo ≤ D ∧ D < B ∧ d = { target := .collected D, args := #[] } ∧ W.heap[D]? = some (.deferred (some [])) ∧ MK lo D ds W
theorem MK.mono {lo : Nat} {W : World} : ∀ {B B' : Nat} {ds : List Deferred}, MK lo B ds W → B ≤ B' → MK lo B' ds W
  | _, _, [], _, _ => trivial
  | B, B', d :: ds, h, hB => by
    obtain ⟨D, h1, h2, h3, h4, h5⟩ := h
    exact ⟨D, h1, Nat.lt_of_lt_of_le h2 hB, h3, h4, h5⟩
theorem MK.mod {lo : Nat} {W W' : World} {S : Nat → Prop} (m : Mod S W W') : ∀ {B : Nat} {ds : List Deferred}, MK lo B ds W → (∀ k, k < B → W.heap[k]? = some (.deferred (some [])) → ¬ S k) → MK lo B ds W'
  | _, [], _, _ => trivial
  | B, d :: ds, h, hs => by
    obtain ⟨D, h1, h2, h3, h4, h5⟩ := h
    have hD := (Array.getElem?_eq_some_iff.1 h4).1
    exact ⟨D, h1, h2, h3, (m.block D hD (hs D h2 h4)).trans h4, MK.mod m h5 (fun k hk hk' => hs k (Nat.lt_trans hk h2) hk')⟩
/-- Shutting the marks keeps every block of cells, and what lay below. -/
theorem leaves_marks {F : Fence} {n : Nat} {P : Program} {fn : Func} {tmps : Array Value} {R : Ending → World → Prop} {lo : Nat} : ∀ {ds : List Deferred} {B : Nat} {W : World}, MK lo B ds W → lo ≤ W.heap.size →
    (∀ W', Below lo W W' → (∀ b t c, Blk W b t c → Blk W' b t c) → LeavesInM F n P fn tmps R [] .returning W') → LeavesInM F n P fn tmps R ds .returning W
  | [], B, W, _, _, hf => hf W (Below.refl _ _) (fun _ _ _ h => h)
  | d :: ds, B, W, h, hlo, hf => by
    obtain ⟨D, h1, h2, rfl, h4, h5⟩ := h
    have hD := (Array.getElem?_eq_some_iff.1 h4).1
    have hb : Below lo W (W.putObj D (.deferred none)) := (Below.refl lo W).grown (grownBy_putObj' W D (.deferred none)) hlo (fun k e => by cases e; exact h1)
    have hm : Mod (one D) W (W.putObj D (.deferred none)) := Mod.of_grown (grownBy_putObj' W D (.deferred none)) (fun k _ e => by cases e; rfl)
    have hc : ∀ b t c, Blk W b t c → Blk (W.putObj D (.deferred none)) b t c := fun b t c hB => hB.mod hm (fun e => by
      have e : b = D := e
      subst e
      have hB : W.heap[b]? = some (.cells c t (0, 0)) := hB
      rw [h4] at hB
      cases hB)
    refine ⟨by simp, .inl ⟨_, _, rfl, run_takeDeferred h4, ?_⟩⟩
    refine leaves_marks (lo := lo) (B := D) (ds := ds) (h5.mod hm (fun k hk _ e => by have e : k = D := e; omega)) (Nat.le_trans hlo hb.size) ?_
    exact fun W' hW hW' => hf W' (hb.trans hW) (fun b t c hB => hW' b t c (hc b t c hB))
end Go.Proofs.Ytknbehjhaaidoaa.IX

