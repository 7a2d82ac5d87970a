/- IndexExact: the texts IxA IxB IxC IxD of this seat, one behind the other. -/
import Derived.Test.YtknbehjhaaidoaaM10
import Derived.Test.YtknbehjhaaidoaaM08
import Derived.Test.YtknbehjhaaidoaaM09
/- An index: sixteen tables. Its memory; there, Shard, of, Get. -/
namespace Go.Proofs.Ytknbehjhaaidoaa.IX
open Go.RowKit Mem HD TB
set_option linter.unusedVariables false
set_option linter.unusedSimpArgs false

/-- In which table a key's entry lies. -/
def shard (k : Key) : Nat := (k.1[0]'(by rw [k.2]; decide)).toNat % 16
theorem shard_lt (k : Key) : shard k < 16 := Nat.mod_lt _ (by decide)
/-- The sixteen pointers. -/
def ptrs (P : Nat → Nat) : Array Value := ((List.range 16).map fun i => Value.pointer (some ⟨P i, 0, none⟩)).toArray
theorem ptrs_get (P : Nat → Nat) {i : Nat} (h : i < 16) : (ptrs P)[i]? = some (.pointer (some ⟨P i, 0, none⟩)) := by
  unfold ptrs
  rw [List.getElem?_toArray, List.getElem?_map, List.getElem?_range h]
  rfl
/-- An index at block g, its blocks in R. -/
structure IxAt (w : World) (g : Nat) (R : Nat → Prop) (T : Nat → Tab Key Ent) (P : Nat → Nat) (Rs : Nat → Nat → Prop) : Prop where
  b : Blk w g 103 (ptrs P)
  t : ∀ i, i < 16 → TabAt w (P i) (Rs i) (T i)
  wf : ∀ i, i < 16 → WF hash 1 (T i)
  sh : ∀ i, i < 16 → ∀ k v, (k, v) ∈ (T i).L → shard k = i
  ap : ∀ i j, i < 16 → j < 16 → i ≠ j → ∀ x, Rs i x → ¬ Rs j x
  ng : ∀ i, i < 16 → ¬ Rs i g
  sub : ∀ i, i < 16 → ∀ x, Rs i x → R x ∧ x < w.heap.size
  rg : R g
/-- All pairs. -/
def IL (T : Nat → Tab Key Ent) : List (Key × Ent) := (List.range 16).flatMap fun i => (T i).L
theorem mem_IL {T : Nat → Tab Key Ent} {k : Key} {v : Ent} : (k, v) ∈ IL T ↔ ∃ i, i < 16 ∧ (k, v) ∈ (T i).L := by
  unfold IL
  rw [List.mem_flatMap]
  constructor
  · rintro ⟨i, hi, h⟩
    exact ⟨i, List.mem_range.1 hi, h⟩
  · rintro ⟨i, hi, h⟩
    exact ⟨i, List.mem_range.2 hi, h⟩
section
variable {S R R' : Nat → Prop} {w w' : World} {g : Nat} {T : Nat → Tab Key Ent} {P : Nat → Nat} {Rs : Nat → Nat → Prop}
theorem IxAt.mod (h : IxAt w g R T P Rs) (m : Mod S w w') (hs : ∀ x, R x → ¬ S x) : IxAt w' g R T P Rs :=
  ⟨h.b.mod m (hs _ h.rg), fun i hi => (h.t i hi).mod m (fun x hx => hs x (h.sub i hi x hx).1), h.wf, h.sh, h.ap, h.ng, fun i hi x hx => ⟨(h.sub i hi x hx).1, Nat.lt_of_lt_of_le (h.sub i hi x hx).2 m.size⟩, h.rg⟩
theorem IxAt.mono (h : IxAt w g R T P Rs) (hr : ∀ x, R x → R' x) : IxAt w g R' T P Rs := ⟨h.b, h.t, h.wf, h.sh, h.ap, h.ng, fun i hi x hx => ⟨hr _ (h.sub i hi x hx).1, (h.sub i hi x hx).2⟩, hr _ h.rg⟩
theorem IxAt.mem (h : IxAt w g R T P Rs) {k : Key} {v : Ent} : (k, v) ∈ IL T ↔ (k, v) ∈ (T (shard k)).L := by
  rw [mem_IL]
  constructor
  · rintro ⟨i, hi, hm⟩
    rw [h.sh i hi k v hm]
    exact hm
  · exact fun hm => ⟨shard k, shard_lt k, hm⟩
theorem IxAt.found (h : IxAt w g R T P Rs) {k : Key} {r : Option Ent} (hf : TB.Found (T (shard k)).L k r) : TB.Found (IL T) k r := fun v => (hf v).trans h.mem.symm
/-- One table has changed. -/
theorem IxAt.one (h : IxAt w g R T P Rs) {i : Nat} (hi : i < 16) (m : Mod (Rs i) w w') {t' : Tab Key Ent} (hw : WF hash 1 t') (hsh : ∀ k v, (k, v) ∈ t'.L → shard k = i) (ht : TabAt w' (P i) (ext (Rs i) w w') t') :
    IxAt w' g (ext R w w') (fun j => if j = i then t' else T j) P (fun j => if j = i then ext (Rs i) w w' else Rs j) := by
  have hne : ∀ j, j < 16 → j ≠ i → ∀ x, Rs j x → ¬ Rs i x := fun j hj hji x hx => h.ap j i hj hi hji x hx
  refine ⟨h.b.mod m (h.ng i hi), fun j hj => ?_, fun j hj => ?_, fun j hj k v hm => ?_, fun j l hj hl hjl x hx => ?_, fun j hj hx => ?_, fun j hj x hx => ?_, .inl h.rg⟩
  · by_cases e : j = i
    · subst e; simp only [if_pos]; exact ht
    · simp only [if_neg e]; exact (h.t j hj).mod m (hne j hj e)
  · by_cases e : j = i
    · subst e; simp only [if_pos]; exact hw
    · simp only [if_neg e]; exact h.wf j hj
  · by_cases e : j = i
    · subst e; simp only [if_pos] at hm; exact hsh k v hm
    · simp only [if_neg e] at hm; exact h.sh j hj k v hm
  · by_cases e : j = i
    · by_cases e2 : l = i
      · omega
      · simp only [if_pos e] at hx
        simp only [if_neg e2]
        rcases hx with hx | hx
        · exact fun hc => hne l hl e2 x hc hx
        · exact fun hc => by have := (h.sub l hl x hc).2; omega
    · simp only [if_neg e] at hx
      by_cases e2 : l = i
      · simp only [if_pos e2]
        rintro (hc | hc)
        · exact hne j hj e x hx hc
        · have := (h.sub j hj x hx).2; omega
      · simp only [if_neg e2]
        exact h.ap j l hj hl hjl x hx
  · by_cases e : j = i
    · simp only [if_pos e] at hx
      rcases hx with hx | hx
      · exact h.ng i hi hx
      · have := h.b.lt; omega
    · simp only [if_neg e] at hx
      exact h.ng j hj hx
  · by_cases e : j = i
    · simp only [if_pos e] at hx
      rcases hx with hx | hx
      · exact ⟨.inl (h.sub i hi x hx).1, Nat.lt_of_lt_of_le (h.sub i hi x hx).2 m.size⟩
      · exact ⟨.inr hx, hx.2⟩
    · simp only [if_neg e] at hx
      exact ⟨.inl (h.sub j hj x hx).1, Nat.lt_of_lt_of_le (h.sub j hj x hx).2 m.size⟩
end
set_option maxRecDepth 100000 in
theorem there_any {w : World} {g : Nat} {R : Nat → Prop} {T : Nat → Tab Key Ent} {P : Nat → Nat} {Rs : Nat → Nat → Prop} (h : IxAt w g R T P Rs) : Calls Try.prog 53 #[.pointer (some ⟨g, 0, none⟩)] w fun e w' => e = .returned (.bool true) ∧ w' = w := by
  have c0 : w.cell? ⟨g, 0, none⟩ = some (.pointer (some ⟨P 0, 0, none⟩)) := (h.b.cell 0).trans (ptrs_get P (by decide))
  clear h
  go_enter Try.func53, Try.ntmps53
  go_wp2_with fail
  go_ret
  exact ⟨rfl, rfl⟩
set_option maxRecDepth 100000 in
theorem shard_any (k : Key) (w : World) : Calls Try.prog 66 #[.agg k.L.toArray] w fun e w' => e = .returned (.int .i64 (shard k : Int)) ∧ Mod no w w' := by
  obtain ⟨b, hb⟩ : ∃ b : UInt8, b = (k.1[0]'(by rw [k.2]; decide)) := ⟨_, rfl⟩
  have c0 : (w.alloc (.cells k.L.toArray 39)).cell? ⟨w.heap.size, 0, none⟩ = some (.int .u8 (b.toNat : Int)) := by
    rw [(Blk.new w 39 k.L.toArray).cell, List.getElem?_toArray]
    unfold Key.L kOf
    rw [List.getElem?_map, List.getElem?_eq_getElem (by rw [k.2]; decide), hb]
    rfl
  have hm : Mod no w (w.alloc (.cells k.L.toArray 39)) := (Mod.refl no w).alloc _
  have hs : ((b.toNat : Int)) % 16 = (shard k : Int) := by
    unfold shard
    rw [← hb]
    omega
  have hbl := b.toNat_lt
  have HS := Lib.hid (And.intro hs (And.intro hm hbl))
  clear hb hs hm
  go_enter Try.func66, Try.ntmps66
  go_wp2_with fail
  go_ret
  exact ⟨by rw [← HS.out.1]; rfl, HS.out.2.1⟩
end Go.Proofs.Ytknbehjhaaidoaa.IX

/- An index: of, Get. -/
namespace Go.Proofs.Ytknbehjhaaidoaa.IX
open Go.RowKit Mem HD TB
set_option linter.unusedVariables false
set_option linter.unusedSimpArgs false
section
variable {w : World} {a : Act} {o : Oper}
theorem y_xt {x : Operand} {g : Nat} (ho : o.op = .fieldAddr 103 x 0) (hx : a.eval x = .pointer (some ⟨g, 0, none⟩)) : (execOp a.eval o).run Try.prog w = .ok (.value (.pointer (some ⟨g, 0, none⟩))) w := by
  generalize a.eval = ev at hx
  unfold execOp
  simp only [ho, hx]
  go_simp
theorem y_xi {x y : Operand} {g p : Nat} (ho : o.op = .indexAddr 101 x y) (hx : a.eval x = .pointer (some ⟨g, 0, none⟩)) (hy : a.eval y = .int .i64 (p : Int)) (hp : p < 16) : (execOp a.eval o).run Try.prog w = .ok (.value (.pointer (some ⟨g, p, none⟩))) w := by
  have hp0 : (0 : Int) ≤ (p : Int) := by omega
  have hpi : (p : Int) < (16 : Int) := by omega
  generalize a.eval = ev at hx hy
  unfold execOp
  simp only [ho, hx, hy]
  go_simp
theorem y_pt {x : Operand} {p : Addr} {v : Value} (ho : o.op = .load 100 x) (hx : a.eval x = .pointer (some p)) (hc : w.cell? p = some v) (hv : v.oneCell' = true) : (execOp a.eval o).run Try.prog w = .ok (.value v) w := by
  generalize a.eval = ev at hx
  unfold execOp
  simp only [ho, hx]
  go_simp
end
theorem IxAt.drew {w : World} {g : Nat} {R : Nat → Prop} {T : Nat → Tab Key Ent} {P : Nat → Nat} {Rs : Nat → Nat → Prop} (h : IxAt w g R T P Rs) : IxAt w.drew g R T P Rs := h.mod ((Mod.refl no w).drew) (fun _ _ c => c)
theorem IxAt.small {w : World} {g : Nat} {R : Nat → Prop} {T : Nat → Tab Key Ent} {P : Nat → Nat} {Rs : Nat → Nat → Prop} (h : IxAt w g R T P Rs) : IxAt w g (TB.small R w) T P Rs :=
  ⟨h.b, h.t, h.wf, h.sh, h.ap, h.ng, fun i hi x hx => ⟨⟨(h.sub i hi x hx).1, (h.sub i hi x hx).2⟩, (h.sub i hi x hx).2⟩, ⟨h.rg, h.b.lt⟩⟩
theorem gotV_eq (r : Option Ent) : gotV r = .tuple #[.agg (r.getD e0).L.toArray, .bool r.isSome] := by cases r <;> rfl
set_option maxRecDepth 100000 in
theorem of_any {w : World} {g : Nat} {R : Nat → Prop} {T : Nat → Tab Key Ent} {P : Nat → Nat} {Rs : Nat → Nat → Prop} (h : IxAt w g R T P Rs) (k : Key) : Calls Try.prog 54 #[.pointer (some ⟨g, 0, none⟩), .agg k.L.toArray] w fun e w' => e = .returned (.pointer (some ⟨P (shard k), 0, none⟩)) ∧ Mod no w w' := by
  have hm : Mod no w (w.alloc (.cells k.L.toArray 39)) := (Mod.refl no w).alloc _
  have hr : (w.alloc (.cells k.L.toArray 39)).rangeAt w.heap.size 0 k.L := blk_range (Blk.new w 39 k.L.toArray)
  have HA := Lib.hid (And.intro (And.intro (h.mod hm (fun _ _ c => c)) hr) hm)
  clear h hm hr
  go_enter Try.func54, Try.ntmps54
  go_upto_region 1 with fail
  obtain ⟨w1, hw1⟩ : ∃ w1, w1 = w.alloc (.cells k.L.toArray 39) := ⟨_, rfl⟩
  rw [← hw1] at HA ⊢
  clear hw1
  obtain ⟨h0, hh0⟩ : ∃ h0, h0 = w.heap.size := ⟨_, rfl⟩
  rw [← hh0] at HA ⊢
  clear hh0
  refine wp_region_held_drew (S := fun w' => IxAt w' g R T P Rs ∧ w'.rangeAt h0 0 k.L) (by kernel_rfl) ⟨HA.out.1.1.drew, HA.out.1.2⟩ (fun hHeld => ?_)
  refine takeD (i := 0) (d := some 5) (v := (.pointer (some ⟨g, 0, none⟩))) rfl (by kernel_rfl) (by kernel_rfl) (by kernel_rfl) rfl (fun _ _ _ h => h) (Or.inl ⟨by kernel_rfl, fun w9 hw => y_move rfl rfl⟩) hHeld ?_
  simp only [Act.put, List.setIfInBounds_toArray, List.set_cons_zero, List.set_cons_succ]
  refine takeD (i := 1) (d := some 6) (v := (.agg k.L.toArray)) rfl (by kernel_rfl) (by kernel_rfl) (by kernel_rfl) rfl (fun _ _ _ h => h) (Or.inl ⟨by kernel_rfl, fun w9 hw => y_key rfl rfl hw.2⟩) hHeld ?_
  simp only [Act.put, List.setIfInBounds_toArray, List.set_cons_zero, List.set_cons_succ]
  refine takeD (i := 3) (d := some 8) (v := (.pointer (some ⟨g, 0, none⟩))) rfl (by kernel_rfl) (by kernel_rfl) (by kernel_rfl) rfl (fun _ _ _ h => h) (Or.inl ⟨by kernel_rfl, fun w9 hw => y_nil rfl rfl⟩) hHeld ?_
  simp only [Act.put, List.setIfInBounds_toArray, List.set_cons_zero, List.set_cons_succ]
  refine takeD (i := 4) (d := some 9) (v := (.pointer (some ⟨g, 0, none⟩))) rfl (by kernel_rfl) (by kernel_rfl) (by kernel_rfl) rfl (fun _ _ _ h => h) (Or.inl ⟨by kernel_rfl, fun w9 hw => y_xt rfl rfl⟩) hHeld ?_
  simp only [Act.put, List.setIfInBounds_toArray, List.set_cons_zero, List.set_cons_succ]
  refine readyD (i := 2) (d := some 7) rfl (by kernel_rfl) rfl (by kernel_rfl) fun K hK => ?_
  refine op_c1 (fun _ _ => rfl) rfl rfl (shard_any k _) ?_
  rintro e w2 ⟨rfl, hm2⟩
  have HM2 := Lib.hid (show Mod no w1 w2 from (Mod.refl no _).drew.and_then hm2)
  refine ⟨_, rfl, hK _ _ ⟨hHeld.1.mod hm2 (fun _ _ c => c), range_mod hHeld.2 hm2 (fun c => c)⟩ fun hHeld9 => ?_⟩
  clear hK K hHeld
  have hHeld := hHeld9
  clear hHeld9
  simp only [Act.put, List.setIfInBounds_toArray, List.set_cons_zero, List.set_cons_succ]
  refine takeD (i := 5) (d := some 10) (v := (.pointer (some ⟨g, shard k, none⟩))) rfl (by kernel_rfl) (by kernel_rfl) (by kernel_rfl) rfl (fun _ _ _ h => h) (Or.inl ⟨by kernel_rfl, fun w9 hw => y_xi rfl rfl rfl (shard_lt k)⟩) hHeld ?_
  simp only [Act.put, List.setIfInBounds_toArray, List.set_cons_zero, List.set_cons_succ]
  refine takeD (i := 6) (d := some 11) (v := (.pointer (some ⟨P (shard k), 0, none⟩))) rfl (by kernel_rfl) (by kernel_rfl) (by kernel_rfl) rfl (fun _ _ _ h => h) (Or.inl ⟨by kernel_rfl, fun w9 hw => y_pt rfl rfl ((hw.1.b.cell _).trans (ptrs_get P (shard_lt k))) rfl⟩) hHeld ?_
  simp only [Act.put, List.setIfInBounds_toArray, List.set_cons_zero, List.set_cons_succ]
  refine takeD (i := 7) (d := some 4) (v := (.pointer (some ⟨P (shard k), 0, none⟩))) rfl (by kernel_rfl) (by kernel_rfl) (by kernel_rfl) rfl (fun _ _ _ h => h) (Or.inl ⟨by kernel_rfl, fun w9 hw => y_assign rfl rfl⟩) hHeld ?_
  simp only [Act.put, List.setIfInBounds_toArray, List.set_cons_zero, List.set_cons_succ]
  refine wpAnyH_done (by kernel_rfl) ?_ _
  go_wp2_with fail
  go_ret
  exact ⟨rfl, HA.out.2.and_then HM2.out⟩
def W2 (w : World) (k : Key) : World := (w.alloc (.cells k.L.toArray 39)).alloc (.cells #[.int .i64 0, .int .i64 0, .int .i64 0, .int .u32 0] 56)
theorem w2_facts (w : World) (k : Key) : Mod no w (W2 w k) ∧ (W2 w k).rangeAt w.heap.size 0 k.L ∧ Blk (W2 w k) (w.heap.size + 1) 56 e0.L.toArray := by
  exact ⟨((Mod.refl no w).alloc _).alloc _, blk_range ((Blk.new w 39 k.L.toArray).alloc _), Blk.new_at (w.alloc (.cells k.L.toArray 39)) 56 e0.L.toArray (by simp)⟩
set_option maxRecDepth 100000 in
theorem ixget_any {w : World} {g : Nat} {R : Nat → Prop} {T : Nat → Tab Key Ent} {P : Nat → Nat} {Rs : Nat → Nat → Prop} (h : IxAt w g R T P Rs) (k : Key) : Calls Try.prog 52 #[.pointer (some ⟨g, 0, none⟩), .agg k.L.toArray] w fun e w' => (∃ r, e = .returned (gotV r) ∧ TB.Found (IL T) k r) ∧ Mod no w w' := by
  have hw := w2_facts w k
  have HA := Lib.hid (And.intro (And.intro ((h.small).mod hw.1 (fun _ _ c => c)) hw.2) hw.1)
  obtain ⟨R0, hR0⟩ : ∃ R0, R0 = TB.small R w := ⟨_, rfl⟩
  rw [← hR0] at HA
  have HR0 := Lib.hid hR0
  clear h hw hR0
  go_enter Try.func52, Try.ntmps52
  go_upto_region 3 with (first
    | (go_at_call 53; refine (there_any HA.out.1.1).mono ?_; rintro e w' ⟨rfl, rfl⟩))
  obtain ⟨w2, hw2⟩ : ∃ w2, w2 = W2 w k := ⟨_, rfl⟩
  rw [← hw2] at HA ⊢
  clear hw2
  obtain ⟨h0, hh0⟩ : ∃ h0, h0 = w.heap.size := ⟨_, rfl⟩
  have HH := Lib.hid hh0
  rw [← hh0] at HA ⊢
  clear hh0
  have HRS := Lib.hid (show ∀ x, R0 x → x < h0 from fun x hx => by rw [HR0.out] at hx; rw [HH.out]; exact hx.2)
  refine wp_region_held_drew (S := fun w' => IxAt w' g R0 T P Rs ∧ w'.rangeAt h0 0 k.L ∧ ∃ e : Ent, Blk w' (h0 + 1) 56 e.L.toArray) (by kernel_rfl) ⟨HA.out.1.1.drew, HA.out.1.2.1, e0, HA.out.1.2.2⟩ (fun hHeld => ?_)
  refine takeD (i := 0) (d := some 10) (v := (.pointer (some ⟨g, 0, none⟩))) rfl (by kernel_rfl) (by kernel_rfl) (by kernel_rfl) rfl (fun _ _ _ h => h) (Or.inl ⟨by kernel_rfl, fun w9 hw => y_move rfl rfl⟩) hHeld ?_
  simp only [Act.put, List.setIfInBounds_toArray, List.set_cons_zero, List.set_cons_succ]
  refine takeD (i := 1) (d := some 11) (v := (.agg k.L.toArray)) rfl (by kernel_rfl) (by kernel_rfl) (by kernel_rfl) rfl (fun _ _ _ h => h) (Or.inl ⟨by kernel_rfl, fun w9 hw => y_key rfl rfl hw.2.1⟩) hHeld ?_
  simp only [Act.put, List.setIfInBounds_toArray, List.set_cons_zero, List.set_cons_succ]
  refine takeD (i := 3) (d := some 13) (v := (.agg k.L.toArray)) rfl (by kernel_rfl) (by kernel_rfl) (by kernel_rfl) rfl (fun _ _ _ h => h) (Or.inl ⟨by kernel_rfl, fun w9 hw => y_key rfl rfl hw.2.1⟩) hHeld ?_
  simp only [Act.put, List.setIfInBounds_toArray, List.set_cons_zero, List.set_cons_succ]
  refine readyD (i := 2) (d := some 12) rfl (by kernel_rfl) rfl (by kernel_rfl) fun K hK => ?_
  refine op_c2 (fun _ _ => rfl) rfl rfl rfl (of_any hHeld.1 k) ?_
  rintro e w3 ⟨rfl, hm3⟩
  have HM3 := Lib.hid (show Mod no w2 w3 from (Mod.refl no _).drew.and_then hm3)
  refine ⟨_, rfl, hK _ _ ⟨hHeld.1.mod hm3 (fun _ _ c => c), range_mod hHeld.2.1 hm3 (fun c => c), hHeld.2.2.imp fun _ h => h.mod hm3 (fun c => c)⟩ fun hHeld9 => ?_⟩
  clear hK K hHeld
  have hHeld := hHeld9
  clear hHeld9
  simp only [Act.put, List.setIfInBounds_toArray, List.set_cons_zero, List.set_cons_succ]
  refine readyD (i := 4) (d := some 14) rfl (by kernel_rfl) rfl (by kernel_rfl) fun K hK => ?_
  refine op_c2 (fun _ _ => rfl) rfl rfl rfl (get_any (hHeld.1.t _ (shard_lt k)) (hHeld.1.wf _ (shard_lt k)) k) ?_
  rintro e w4 ⟨⟨r, rfl, hf⟩, hm4⟩
  have HF := Lib.hid (And.intro (hHeld.1.found hf) (show Mod no w2 w4 from HM3.out.and_then hm4))
  refine ⟨_, rfl, hK _ _ ⟨hHeld.1.mod hm4 (fun _ _ c => c), range_mod hHeld.2.1 hm4 (fun c => c), hHeld.2.2.imp fun _ h => h.mod hm4 (fun c => c)⟩ fun hHeld9 => ?_⟩
  clear hK K hHeld
  have hHeld := hHeld9
  clear hHeld9
  simp only [Act.put, List.setIfInBounds_toArray, List.set_cons_zero, List.set_cons_succ]
  refine takeD (i := 5) (d := some 15) (v := (.agg (r.getD e0).L.toArray)) rfl (by kernel_rfl) (by kernel_rfl) (by kernel_rfl) rfl (fun _ _ _ h => h) (Or.inl ⟨by kernel_rfl, fun w9 hw => y_ext rfl (gotV_eq r) rfl⟩) hHeld ?_
  simp only [Act.put, List.setIfInBounds_toArray, List.set_cons_zero, List.set_cons_succ]
  refine takeD (i := 6) (d := some 16) (v := (.bool r.isSome)) rfl (by kernel_rfl) (by kernel_rfl) (by kernel_rfl) rfl (fun _ _ _ h => h) (Or.inl ⟨by kernel_rfl, fun w9 hw => y_ext rfl (gotV_eq r) rfl⟩) hHeld ?_
  simp only [Act.put, List.setIfInBounds_toArray, List.set_cons_zero, List.set_cons_succ]
  refine readyD (i := 7) (d := none) rfl (by kernel_rfl) rfl (by kernel_rfl) fun K hK => ?_
  obtain ⟨ee, hb⟩ := hHeld.2.2
  refine wp_store_mid 56 (.tmp 4) (.tmp 15) rfl (h0 + 1) 0 (r.getD e0).L.toArray rfl rfl (by exact blk_there hb 0 4 (Nat.le_refl 4)) (ent_sizeG _) (all_oneCell_toArray (ent_ones _)) ?_
  have m5 : Mod no w (World.setCells w4 (h0 + 1) 0 (r.getD e0).L) := mod_setCells (fun c => by have := HH.out; omega) _ _ _ (HA.out.2.and_then HF.out.2)
  have m5' : Mod (one (h0 + 1)) w4 (World.setCells w4 (h0 + 1) 0 (r.getD e0).L) := mod_setCells (S := one (h0 + 1)) (fun _ => rfl) _ _ _ (Mod.refl _ _)
  have r5 : (World.setCells w4 (h0 + 1) 0 (r.getD e0).L).rangeAt (h0 + 1) 0 (r.getD e0).L := World.rangeAt_setCells_same _ _ _ _ (blk_there hb 0 4 (Nat.le_refl 4))
  have H5 := Lib.hid (And.intro m5 r5)
  refine hK _ _ ⟨hHeld.1.mod m5' (fun x hx c => by have c : x = h0 + 1 := c; have := HRS.out x hx; omega), range_mod hHeld.2.1 m5' (fun c => by have c : h0 = h0 + 1 := c; omega), r.getD e0, by have := blk_sets (h0 + 1) (r.getD e0).L 0 ee.L w4 hb (Nat.le_refl 4); exact this⟩ fun hHeld9 => ?_
  clear hK K hHeld hb
  have hHeld := hHeld9
  clear hHeld9
  simp only [Act.put, List.setIfInBounds_toArray, List.set_cons_zero, List.set_cons_succ]
  refine takeD (i := 8) (d := some 5) (v := (.bool r.isSome)) rfl (by kernel_rfl) (by kernel_rfl) (by kernel_rfl) rfl (fun _ _ _ h => h) (Or.inl ⟨by kernel_rfl, fun w9 hw => y_assign rfl rfl⟩) hHeld ?_
  simp only [Act.put, List.setIfInBounds_toArray, List.set_cons_zero, List.set_cons_succ]
  refine wpAnyH_done (by kernel_rfl) ?_ _
  go_wp2_with fail
  exact bodyPost_ret (v := .tuple #[.agg (r.getD e0).L.toArray, .bool r.isSome]) (ret_two (p := 4) (u := 5) (ty := 56) rfl _ _ (h0 + 1) (r.getD e0).L _ rfl rfl H5.out.2 Try.underlying56 rfl (ent_sizeG _)) rfl ⟨⟨r, by rw [gotV_eq], HF.out.1⟩, H5.out.1⟩
end Go.Proofs.Ytknbehjhaaidoaa.IX

/- An index: Del. -/
namespace Go.Proofs.Ytknbehjhaaidoaa.IX
open Go.RowKit Mem HD TB
set_option linter.unusedVariables false
set_option linter.unusedSimpArgs false
theorem flat_perm {α : Type} {f g : Nat → List α} : ∀ l : List Nat, (∀ j ∈ l, (f j).Perm (g j)) → (l.flatMap f).Perm (l.flatMap g)
  | [], _ => .refl _
  | a :: l, h => by
    rw [List.flatMap_cons, List.flatMap_cons]
    exact (h a List.mem_cons_self).append (flat_perm l fun j hj => h j (List.mem_cons_of_mem _ hj))
theorem flat_cons {α : Type} {f g : Nat → List α} {x : α} {i : Nat} : ∀ n, i < n → (∀ j, j < n → j ≠ i → (f j).Perm (g j)) → (f i).Perm (x :: g i) → ((List.range n).flatMap f).Perm (x :: (List.range n).flatMap g)
  | 0, h, _, _ => absurd h (Nat.not_lt_zero _)
  | n + 1, h, ho, hi => by
    rw [List.range_succ, List.flatMap_append, List.flatMap_append, List.flatMap_singleton, List.flatMap_singleton]
    by_cases e : i = n
    · subst e
      exact ((flat_perm (List.range i) fun j hj => ho j (by have := List.mem_range.1 hj; omega) (by have := List.mem_range.1 hj; omega)).append hi).trans List.perm_middle
    · exact (flat_cons n (by omega) (fun j hj hne => ho j (by omega) hne) hi).append (ho n (by omega) (fun c => e c.symm))
theorem less_IL (T : Nat → Tab Key Ent) (k : Key) : less (IL T) k = (List.range 16).flatMap fun i => less (T i).L k := by
  unfold IL less
  rw [List.filter_flatMap]
section
variable {w w' : World} {g : Nat} {R : Nat → Prop} {T : Nat → Tab Key Ent} {P : Nat → Nat} {Rs : Nat → Nat → Prop}
theorem IxAt.far (h : IxAt w g R T P Rs) {k : Key} {j : Nat} (hj : j < 16) (hne : j ≠ shard k) : less (T j).L k = (T j).L := less_no fun v hm => hne (h.sh j hj k v hm).symm
theorem IxAt.less_sh (h : IxAt w g R T P Rs) {i : Nat} (hi : i < 16) {t' : Tab Key Ent} {k : Key} (p : t'.L.Perm (less (T i).L k)) : ∀ k' v, (k', v) ∈ t'.L → shard k' = i := fun k' v hm => h.sh i hi k' v (less_mem.1 (p.mem_iff.1 hm)).1
theorem IxAt.put_sh (h : IxAt w g R T P Rs) {t' : Tab Key Ent} {k : Key} {v : Ent} (p : t'.L.Perm ((k, v) :: less (T (shard k)).L k)) : ∀ k' v, (k', v) ∈ t'.L → shard k' = shard k := fun k' v' hm => by
  rcases List.mem_cons.1 (p.mem_iff.1 hm) with c | c
  · injection c with c1 c2; rw [c1]
  · exact h.sh _ (shard_lt k) k' v' (less_mem.1 c).1
theorem IxAt.lessP (h : IxAt w g R T P Rs) {k : Key} {t' : Tab Key Ent} (p : t'.L.Perm (less (T (shard k)).L k)) : (IL fun j => if j = shard k then t' else T j).Perm (less (IL T) k) := by
  rw [less_IL]
  refine flat_perm _ fun j hj => ?_
  by_cases e : j = shard k
  · subst e; simp only [if_pos]; exact p
  · simp only [if_neg e]; rw [h.far (List.mem_range.1 hj) e]
theorem IxAt.putP (h : IxAt w g R T P Rs) {k : Key} {v : Ent} {t' : Tab Key Ent} (p : t'.L.Perm ((k, v) :: less (T (shard k)).L k)) : (IL fun j => if j = shard k then t' else T j).Perm ((k, v) :: less (IL T) k) := by
  rw [less_IL]
  refine flat_cons 16 (shard_lt k) (fun j hj e => ?_) ?_
  · simp only [if_neg e]; rw [h.far hj e]
  · simp only [if_pos]; exact p
end
set_option maxRecDepth 100000 in
theorem ixdel_any {w : World} {g : Nat} {R : Nat → Prop} {T : Nat → Tab Key Ent} {P : Nat → Nat} {Rs : Nat → Nat → Prop} (h : IxAt w g R T P Rs) (k : Key) : Calls Try.prog 24 #[.pointer (some ⟨g, 0, none⟩), .agg k.L.toArray] w fun e w' => (∃ r, e = .returned (gotV r) ∧ TB.Found (IL T) k r) ∧ (∃ T' Rs', (IL T').Perm (less (IL T) k) ∧ IxAt w' g (ext R w w') T' P Rs') ∧ Mod R w w' := by
  have hw := w2_facts w k
  have HA := Lib.hid (And.intro (And.intro ((h.small).mod hw.1 (fun _ _ c => c)) hw.2) hw.1)
  obtain ⟨R0, hR0⟩ : ∃ R0, R0 = TB.small R w := ⟨_, rfl⟩
  rw [← hR0] at HA
  have HR0 := Lib.hid hR0
  clear h hw hR0
  go_enter Try.func24, Try.ntmps24
  go_upto_region 3 with (first
    | (go_at_call 53; refine (there_any HA.out.1.1).mono ?_; rintro e w' ⟨rfl, rfl⟩))
  obtain ⟨w2, hw2⟩ : ∃ w2, w2 = W2 w k := ⟨_, rfl⟩
  rw [← hw2] at HA ⊢
  clear hw2
  obtain ⟨h0, hh0⟩ : ∃ h0, h0 = w.heap.size := ⟨_, rfl⟩
  have HH := Lib.hid hh0
  rw [← hh0] at HA ⊢
  clear hh0
  have HRS := Lib.hid (show ∀ x, R0 x → x < h0 from fun x hx => by rw [HR0.out] at hx; rw [HH.out]; exact hx.2)
  have HNS := Lib.hid (show ∀ x, h0 ≤ x → ¬ Rs (shard k) x from fun x hx c => by have := HRS.out x (HA.out.1.1.sub _ (shard_lt k) x c).1; omega)
  refine wp_region_held_drew (S := fun w' => w'.rangeAt h0 0 k.L ∧ ∃ e : Ent, Blk w' (h0 + 1) 56 e.L.toArray) (by kernel_rfl) ⟨HA.out.1.2.1, e0, HA.out.1.2.2⟩ (fun hHeld => ?_)
  refine takeD (i := 0) (d := some 10) (v := (.pointer (some ⟨g, 0, none⟩))) rfl (by kernel_rfl) (by kernel_rfl) (by kernel_rfl) rfl (fun _ _ _ h => h) (Or.inl ⟨by kernel_rfl, fun w9 hw => y_move rfl rfl⟩) hHeld ?_
  simp only [Act.put, List.setIfInBounds_toArray, List.set_cons_zero, List.set_cons_succ]
  refine takeD (i := 1) (d := some 11) (v := (.agg k.L.toArray)) rfl (by kernel_rfl) (by kernel_rfl) (by kernel_rfl) rfl (fun _ _ _ h => h) (Or.inl ⟨by kernel_rfl, fun w9 hw => y_key rfl rfl hw.1⟩) hHeld ?_
  simp only [Act.put, List.setIfInBounds_toArray, List.set_cons_zero, List.set_cons_succ]
  refine takeD (i := 3) (d := some 13) (v := (.agg k.L.toArray)) rfl (by kernel_rfl) (by kernel_rfl) (by kernel_rfl) rfl (fun _ _ _ h => h) (Or.inl ⟨by kernel_rfl, fun w9 hw => y_key rfl rfl hw.1⟩) hHeld ?_
  simp only [Act.put, List.setIfInBounds_toArray, List.set_cons_zero, List.set_cons_succ]
  refine readyD (i := 2) (d := some 12) rfl (by kernel_rfl) rfl (by kernel_rfl) fun K hK => ?_
  refine op_c2 (fun _ _ => rfl) rfl rfl rfl (of_any HA.out.1.1.drew k) ?_
  rintro e w3 ⟨rfl, hm3⟩
  have HM3 := Lib.hid (And.intro (HA.out.1.1.drew.mod hm3 (fun _ _ c => c)) (show Mod no w2 w3 from (Mod.refl no _).drew.and_then hm3))
  refine ⟨_, rfl, hK _ _ ⟨range_mod hHeld.1 hm3 (fun c => c), hHeld.2.imp fun _ h => h.mod hm3 (fun c => c)⟩ fun hHeld9 => ?_⟩
  clear hK K hHeld
  have hHeld := hHeld9
  clear hHeld9
  simp only [Act.put, List.setIfInBounds_toArray, List.set_cons_zero, List.set_cons_succ]
  refine readyD (i := 4) (d := some 14) rfl (by kernel_rfl) rfl (by kernel_rfl) fun K hK => ?_
  refine op_c2 (fun _ _ => rfl) rfl rfl rfl (del_any (HM3.out.1.t _ (shard_lt k)) (HM3.out.1.wf _ (shard_lt k)) k) ?_
  rintro e w4 ⟨⟨r, rfl, hf⟩, ⟨t', hwf, hp, htt⟩, hm4⟩
  have HX := Lib.hid (And.intro hp (HM3.out.1.one (shard_lt k) hm4 hwf (HM3.out.1.less_sh (shard_lt k) hp) (htt.mono fun _ h => .inl h)))
  have HF := Lib.hid (And.intro (HM3.out.1.found hf) (show Mod R0 w2 w4 from (HM3.out.2.mono (fun _ _ c => c.elim)).and_then (hm4.mono fun x _ c => (HM3.out.1.sub _ (shard_lt k) x c).1)))
  refine ⟨_, rfl, hK _ _ ⟨range_mod hHeld.1 hm4 (HNS.out _ (Nat.le_refl _)), hHeld.2.imp fun _ h => h.mod hm4 (HNS.out _ (Nat.le_succ _))⟩ fun hHeld9 => ?_⟩
  clear hK K hHeld
  have hHeld := hHeld9
  clear hHeld9
  simp only [Act.put, List.setIfInBounds_toArray, List.set_cons_zero, List.set_cons_succ]
  refine takeD (i := 5) (d := some 15) (v := (.agg (r.getD e0).L.toArray)) rfl (by kernel_rfl) (by kernel_rfl) (by kernel_rfl) rfl (fun _ _ _ h => h) (Or.inl ⟨by kernel_rfl, fun w9 hw => y_ext rfl (gotV_eq r) rfl⟩) hHeld ?_
  simp only [Act.put, List.setIfInBounds_toArray, List.set_cons_zero, List.set_cons_succ]
  refine takeD (i := 6) (d := some 16) (v := (.bool r.isSome)) rfl (by kernel_rfl) (by kernel_rfl) (by kernel_rfl) rfl (fun _ _ _ h => h) (Or.inl ⟨by kernel_rfl, fun w9 hw => y_ext rfl (gotV_eq r) rfl⟩) hHeld ?_
  simp only [Act.put, List.setIfInBounds_toArray, List.set_cons_zero, List.set_cons_succ]
  refine readyD (i := 7) (d := none) rfl (by kernel_rfl) rfl (by kernel_rfl) fun K hK => ?_
  obtain ⟨ee, hb⟩ := hHeld.2
  refine wp_store_mid 56 (.tmp 4) (.tmp 15) rfl (h0 + 1) 0 (r.getD e0).L.toArray rfl rfl (by exact blk_there hb 0 4 (Nat.le_refl 4)) (ent_sizeG _) (all_oneCell_toArray (ent_ones _)) ?_
  have m5 : Mod R0 w (World.setCells w4 (h0 + 1) 0 (r.getD e0).L) := mod_setCells (fun c => by have := HH.out; omega) _ _ _ ((HA.out.2.mono (fun _ _ c => c.elim)).and_then HF.out.2)
  have m5' : Mod (one (h0 + 1)) w4 (World.setCells w4 (h0 + 1) 0 (r.getD e0).L) := mod_setCells (S := one (h0 + 1)) (fun _ => rfl) _ _ _ (Mod.refl _ _)
  have r5 : (World.setCells w4 (h0 + 1) 0 (r.getD e0).L).rangeAt (h0 + 1) 0 (r.getD e0).L := World.rangeAt_setCells_same _ _ _ _ (blk_there hb 0 4 (Nat.le_refl 4))
  have H5 := Lib.hid (And.intro m5 (And.intro r5 m5'))
  refine hK _ _ ⟨range_mod hHeld.1 m5' (fun c => by have c : h0 = h0 + 1 := c; omega), r.getD e0, by have := blk_sets (h0 + 1) (r.getD e0).L 0 ee.L w4 hb (Nat.le_refl 4); exact this⟩ fun hHeld9 => ?_
  clear hK K hHeld hb
  have hHeld := hHeld9
  clear hHeld9
  simp only [Act.put, List.setIfInBounds_toArray, List.set_cons_zero, List.set_cons_succ]
  refine takeD (i := 8) (d := some 5) (v := (.bool r.isSome)) rfl (by kernel_rfl) (by kernel_rfl) (by kernel_rfl) rfl (fun _ _ _ h => h) (Or.inl ⟨by kernel_rfl, fun w9 hw => y_assign rfl rfl⟩) hHeld ?_
  simp only [Act.put, List.setIfInBounds_toArray, List.set_cons_zero, List.set_cons_succ]
  refine wpAnyH_done (by kernel_rfl) ?_ _
  go_wp2_with fail
  have hs3 := HM3.out.2.size
  have hs2 := HA.out.1.2.2.lt
  have hs5 := H5.out.2.2.size
  have hs := HA.out.2.size
  have hx := HX.out.2.mod H5.out.2.2 (fun x hx c => by
    have c : x = h0 + 1 := c
    rcases hx with hx | hx
    · have := HRS.out x hx; omega
    · have := hx.1; omega)
  have hpost : ∃ T' Rs', (IL T').Perm (less (IL T) k) ∧ IxAt (World.setCells w4 (h0 + 1) 0 (r.getD e0).L) g (ext R w (World.setCells w4 (h0 + 1) 0 (r.getD e0).L)) T' P Rs' := by
    refine ⟨_, _, HA.out.1.1.lessP HX.out.1, hx.mono fun x hx => ?_⟩
    rcases hx with hx | hx
    · rw [HR0.out] at hx; exact .inl hx.1
    · exact .inr ⟨by have := hx.1; omega, by have := hx.2; omega⟩
  obtain ⟨T2, Rs2, q1, q2⟩ := hpost
  exact bodyPost_ret (v := .tuple #[.agg (r.getD e0).L.toArray, .bool r.isSome]) (ret_two (p := 4) (u := 5) (ty := 56) rfl _ _ (h0 + 1) (r.getD e0).L _ rfl rfl H5.out.2.1 Try.underlying56 rfl (ent_sizeG _)) rfl ⟨⟨r, by rw [gotV_eq], HF.out.1⟩, ⟨T2, q1, Rs2, q2⟩, H5.out.1.mono (fun x _ c => by rw [HR0.out] at c; exact c.1)⟩
end Go.Proofs.Ytknbehjhaaidoaa.IX

/- An index: Put. -/
namespace Go.Proofs.Ytknbehjhaaidoaa.IX
open Go.RowKit Mem HD TB
set_option linter.unusedVariables false
set_option linter.unusedSimpArgs false
def W2e (w : World) (k : Key) (v : Ent) : World := (w.alloc (.cells k.L.toArray 39)).alloc (.cells v.L.toArray 56)
theorem w2e_facts (w : World) (k : Key) (v : Ent) : Mod no w (W2e w k v) ∧ (W2e w k v).rangeAt w.heap.size 0 k.L ∧ Blk (W2e w k v) (w.heap.size + 1) 56 v.L.toArray := by
  exact ⟨((Mod.refl no w).alloc _).alloc _, blk_range ((Blk.new w 39 k.L.toArray).alloc _), Blk.new_at (w.alloc (.cells k.L.toArray 39)) 56 v.L.toArray (by simp)⟩
set_option maxRecDepth 100000 in
theorem ixput_any {w : World} {g : Nat} {R : Nat → Prop} {T : Nat → Tab Key Ent} {P : Nat → Nat} {Rs : Nat → Nat → Prop} (h : IxAt w g R T P Rs) (hb : ∀ i, i < 16 → (T i).L.length < 1073741824) (k : Key) (v : Ent) : Calls Try.prog 20 #[.pointer (some ⟨g, 0, none⟩), .agg k.L.toArray, .agg v.L.toArray] w fun e w' => ∃ r, e = .returned (.bool (!(r : Option Ent).isSome)) ∧ TB.Found (IL T) k r ∧ (∃ T', (IL T').Perm (if r.isSome then IL T else (k, v) :: IL T) ∧ ∃ Rs', IxAt w' g (ext R w w') T' P Rs') ∧ Mod R w w' := by
  have hw := w2e_facts w k v
  have HA := Lib.hid (And.intro (And.intro ((h.small).mod hw.1 (fun _ _ c => c)) hw.2) hw.1)
  obtain ⟨R0, hR0⟩ : ∃ R0, R0 = TB.small R w := ⟨_, rfl⟩
  rw [← hR0] at HA
  have HR0 := Lib.hid hR0
  have HB := Lib.hid hb
  clear h hw hR0 hb
  go_enter Try.func20, Try.ntmps20
  go_upto_region 1 with fail
  obtain ⟨w2, hw2⟩ : ∃ w2, w2 = W2e w k v := ⟨_, rfl⟩
  rw [← hw2] at HA
  change Code.wp _ _ _ _ (W2e w k v)
  rw [← hw2]
  clear hw2
  obtain ⟨h0, hh0⟩ : ∃ h0, h0 = w.heap.size := ⟨_, rfl⟩
  have HH := Lib.hid hh0
  rw [← hh0] at HA ⊢
  clear hh0
  have HRS := Lib.hid (show ∀ x, R0 x → x < h0 from fun x hx => by rw [HR0.out] at hx; rw [HH.out]; exact hx.2)
  have HNS := Lib.hid (show ∀ x, h0 ≤ x → ¬ Rs (shard k) x from fun x hx c => by have := HRS.out x (HA.out.1.1.sub _ (shard_lt k) x c).1; omega)
  go_upto_region 2 with (first
    | (refine wpList_load_mid rfl 39 (.tmp 4) (by rfl) h0 0 (by rfl) k.L _ (by exact HA.out.1.2.1) Try.underlying39 rfl (key_sizeG k.len) ?_)
    | (go_at_call 52; refine (ixget_any HA.out.1.1 k).mono ?_; rintro e w3 ⟨⟨r, rfl, hf⟩, hm3⟩; rw [gotV_eq]; have H3 := Lib.hid (And.intro hf hm3); clear hf hm3)
    | (refine wpList_store_mid rfl 56 (.tmp 7) (.tmp 13) (by rfl) w3.heap.size 0 (r.getD e0).L.toArray (by rfl) (by rfl) (by exact blk_there (Blk.new w3 56 e0.L.toArray) 0 4 (Nat.le_refl 4)) (ent_sizeG _) (all_oneCell_toArray (ent_ones _)) ?_))
  obtain ⟨w4, hw4⟩ : ∃ w4, w4 = World.setCells (w3.alloc (.cells #[.int .i64 0, .int .i64 0, .int .i64 0, .int .u32 0] 56)) w3.heap.size 0 (r.getD e0).L.toArray.toList := ⟨_, rfl⟩
  have m34 : Mod no w3 w4 := by rw [hw4]; exact mod_setCells (fun c => by omega) _ _ _ ((Mod.refl no w3).alloc _)
  rw [← hw4]
  clear hw4
  have m24 := H3.out.2.and_then m34
  have H4 := Lib.hid (show IxAt w4 g R0 T P Rs ∧ w4.rangeAt h0 0 k.L ∧ Blk w4 (h0 + 1) 56 v.L.toArray ∧ Mod no w w4 from ⟨HA.out.1.1.mod m24 (fun _ _ c => c), range_mod HA.out.1.2.1 m24 (fun c => c), HA.out.1.2.2.mod m24 (fun c => c), HA.out.2.and_then m24⟩)
  clear m34 m24
  cases r with
  | some e =>
    go_wp2_with fail
    go_ret
    refine ⟨some e, rfl, H3.out.1, ⟨T, .refl _, Rs, H4.out.1.mono fun x hx => ?_⟩, H4.out.2.2.2.mono (fun _ _ c => c.elim)⟩
    rw [HR0.out] at hx; exact .inl hx.1
  | none =>
    go_upto_region 4 with (first
      | (go_at_call 53; refine (there_any H4.out.1).mono ?_; rintro e w9 ⟨rfl, hw9⟩; obtain rfl := hw9.symm))
    refine wp_region_held_drew (S := fun w' => w'.rangeAt h0 0 k.L ∧ Blk w' (h0 + 1) 56 v.L.toArray) (by kernel_rfl) ⟨H4.out.2.1, H4.out.2.2.1⟩ (fun hHeld => ?_)
    refine takeD (i := 0) (d := some 21) (v := (.pointer (some ⟨g, 0, none⟩))) rfl (by kernel_rfl) (by kernel_rfl) (by kernel_rfl) rfl (fun _ _ _ h => h) (Or.inl ⟨by kernel_rfl, fun w9 hw => y_move rfl rfl⟩) hHeld ?_
    simp only [Act.put, List.setIfInBounds_toArray, List.set_cons_zero, List.set_cons_succ]
    refine takeD (i := 1) (d := some 22) (v := (.agg k.L.toArray)) rfl (by kernel_rfl) (by kernel_rfl) (by kernel_rfl) rfl (fun _ _ _ h => h) (Or.inl ⟨by kernel_rfl, fun w9 hw => y_key rfl rfl hw.1⟩) hHeld ?_
    simp only [Act.put, List.setIfInBounds_toArray, List.set_cons_zero, List.set_cons_succ]
    refine takeD (i := 3) (d := some 24) (v := (.agg k.L.toArray)) rfl (by kernel_rfl) (by kernel_rfl) (by kernel_rfl) rfl (fun _ _ _ h => h) (Or.inl ⟨by kernel_rfl, fun w9 hw => y_key rfl rfl hw.1⟩) hHeld ?_
    simp only [Act.put, List.setIfInBounds_toArray, List.set_cons_zero, List.set_cons_succ]
    refine takeD (i := 4) (d := some 25) (v := (.agg v.L.toArray)) rfl (by kernel_rfl) (by kernel_rfl) (by kernel_rfl) rfl (fun _ _ _ h => h) (Or.inl ⟨by kernel_rfl, fun w9 hw => y_ent rfl rfl (blk_range hw.2)⟩) hHeld ?_
    simp only [Act.put, List.setIfInBounds_toArray, List.set_cons_zero, List.set_cons_succ]
    refine readyD (i := 2) (d := some 23) rfl (by kernel_rfl) rfl (by kernel_rfl) fun K hK => ?_
    refine op_c2 (fun _ _ => rfl) rfl rfl rfl (of_any H4.out.1.drew k) ?_
    rintro e w5 ⟨rfl, hm5⟩
    have H5 := Lib.hid (And.intro (H4.out.1.drew.mod hm5 (fun _ _ c => c)) (show Mod no w4 w5 from (Mod.refl no _).drew.and_then hm5))
    refine ⟨_, rfl, hK _ _ ⟨range_mod hHeld.1 hm5 (fun c => c), hHeld.2.mod hm5 (fun c => c)⟩ fun hHeld9 => ?_⟩
    clear hK K hHeld
    have hHeld := hHeld9
    clear hHeld9
    simp only [Act.put, List.setIfInBounds_toArray, List.set_cons_zero, List.set_cons_succ]
    refine readyD (i := 5) (d := some 26) rfl (by kernel_rfl) rfl (by kernel_rfl) fun K hK => ?_
    refine op_c3 (fun _ _ => rfl) rfl rfl rfl rfl (put_any (H5.out.1.t _ (shard_lt k)) (H5.out.1.wf _ (shard_lt k)) (HB.out _ (shard_lt k)) k v) ?_
    rintro e w6 ⟨⟨r, rfl, hf⟩, ⟨t', hwf, hp, htt⟩, hm6⟩
    have HX := Lib.hid (And.intro hp (H5.out.1.one (shard_lt k) hm6 hwf (H5.out.1.put_sh hp) htt))
    have HF := Lib.hid (show Mod R0 w4 w6 from (H5.out.2.mono (fun _ _ c => c.elim)).and_then (hm6.mono fun x _ c => (H5.out.1.sub _ (shard_lt k) x c).1))
    refine ⟨_, rfl, hK _ _ ⟨range_mod hHeld.1 hm6 (HNS.out _ (Nat.le_refl _)), hHeld.2.mod hm6 (HNS.out _ (Nat.le_succ _))⟩ fun hHeld9 => ?_⟩
    clear hK K hHeld
    have hHeld := hHeld9
    clear hHeld9
    simp only [Act.put, List.setIfInBounds_toArray, List.set_cons_zero, List.set_cons_succ]
    refine wpAnyH_done (by kernel_rfl) ?_ _
    go_wp2_with fail
    go_ret
    have hs5 := H5.out.2.size
    have hs4 := H4.out.2.2.2.size
    have hno : less (IL T) k = IL T := less_no fun v' hm => nomatch (H3.out.1 v').2 hm
    refine ⟨none, rfl, H3.out.1, ⟨_, by have := H4.out.1.putP HX.out.1; rw [hno] at this; exact this, _, HX.out.2.mono fun x hx => ?_⟩, (H4.out.2.2.2.mono (fun _ _ c => c.elim)).and_then (HF.out.mono fun x _ c => by rw [HR0.out] at c; exact c.1)⟩
    rcases hx with hx | hx
    · rw [HR0.out] at hx; exact .inl hx.1
    · exact .inr ⟨by have := hx.1; omega, hx.2⟩
end Go.Proofs.Ytknbehjhaaidoaa.IX

