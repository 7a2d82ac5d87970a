/- An index: of, Get. -/
import Derived.Test.YtknbehjhaaidoaaIxA
namespace Go.Proofs.Ytknbehjhaaidoaa.IX
open Go.RowKit Mem HD TB
set_option linter.unusedVariables false
set_option linter.unusedSimpArgs false
section
variable {w : World} {a : Act} {o : Oper}
theorem y_xt {x : Operand} {g : Nat} (ho : o.op = .fieldAddr 103 x 0) (hx : a.eval x = .pointer (some ⟨g, 0, none⟩)) : (execOp a.eval o).run Try.prog w = .ok (.value (.pointer (some ⟨g, 0, none⟩))) w := by
  generalize a.eval = ev at hx
  unfold execOp
  simp only [ho, hx]
  go_simp
theorem y_xi {x y : Operand} {g p : Nat} (ho : o.op = .indexAddr 101 x y) (hx : a.eval x = .pointer (some ⟨g, 0, none⟩)) (hy : a.eval y = .int .i64 (p : Int)) (hp : p < 16) : (execOp a.eval o).run Try.prog w = .ok (.value (.pointer (some ⟨g, p, none⟩))) w := by
  have hp0 : (0 : Int) ≤ (p : Int) := by omega
  have hpi : (p : Int) < (16 : Int) := by omega
  generalize a.eval = ev at hx hy
  unfold execOp
  simp only [ho, hx, hy]
  go_simp
theorem y_pt {x : Operand} {p : Addr} {v : Value} (ho : o.op = .load 100 x) (hx : a.eval x = .pointer (some p)) (hc : w.cell? p = some v) (hv : v.oneCell' = true) : (execOp a.eval o).run Try.prog w = .ok (.value v) w := by
  generalize a.eval = ev at hx
  unfold execOp
  simp only [ho, hx]
  go_simp
end
theorem IxAt.drew {w : World} {g : Nat} {R : Nat → Prop} {T : Nat → Tab Key Ent} {P : Nat → Nat} {Rs : Nat → Nat → Prop} (h : IxAt w g R T P Rs) : IxAt w.drew g R T P Rs := h.mod ((Mod.refl no w).drew) (fun _ _ c => c)
theorem IxAt.small {w : World} {g : Nat} {R : Nat → Prop} {T : Nat → Tab Key Ent} {P : Nat → Nat} {Rs : Nat → Nat → Prop} (h : IxAt w g R T P Rs) : IxAt w g (TB.small R w) T P Rs :=
  ⟨h.b, h.t, h.wf, h.sh, h.ap, h.ng, fun i hi x hx => ⟨⟨(h.sub i hi x hx).1, (h.sub i hi x hx).2⟩, (h.sub i hi x hx).2⟩, ⟨h.rg, h.b.lt⟩⟩
theorem gotV_eq (r : Option Ent) : gotV r = .tuple #[.agg (r.getD e0).L.toArray, .bool r.isSome] := by cases r <;> rfl
set_option maxRecDepth 100000 in
theorem of_any {w : World} {g : Nat} {R : Nat → Prop} {T : Nat → Tab Key Ent} {P : Nat → Nat} {Rs : Nat → Nat → Prop} (h : IxAt w g R T P Rs) (k : Key) : Calls Try.prog 54 #[.pointer (some ⟨g, 0, none⟩), .agg k.L.toArray] w fun e w' => e = .returned (.pointer (some ⟨P (shard k), 0, none⟩)) ∧ Mod no w w' := by
  have hm : Mod no w (w.alloc (.cells k.L.toArray 39)) := (Mod.refl no w).alloc _
  have hr : (w.alloc (.cells k.L.toArray 39)).rangeAt w.heap.size 0 k.L := blk_range (Blk.new w 39 k.L.toArray)
  have HA := Lib.hid (And.intro (And.intro (h.mod hm (fun _ _ c => c)) hr) hm)
  clear h hm hr
  go_enter Try.func54, Try.ntmps54
  go_upto_region 1 with fail
  obtain ⟨w1, hw1⟩ : ∃ w1, w1 = w.alloc (.cells k.L.toArray 39) := ⟨_, rfl⟩
  rw [← hw1] at HA ⊢
  clear hw1
  obtain ⟨h0, hh0⟩ : ∃ h0, h0 = w.heap.size := ⟨_, rfl⟩
  rw [← hh0] at HA ⊢
  clear hh0
  refine wp_region_held_drew (S := fun w' => IxAt w' g R T P Rs ∧ w'.rangeAt h0 0 k.L) (by kernel_rfl) ⟨HA.out.1.1.drew, HA.out.1.2⟩ (fun hHeld => ?_)
  refine takeD (i := 0) (d := some 5) (v := (.pointer (some ⟨g, 0, none⟩))) rfl (by kernel_rfl) (by kernel_rfl) (by kernel_rfl) rfl (fun _ _ _ h => h) (Or.inl ⟨by kernel_rfl, fun w9 hw => y_move rfl rfl⟩) hHeld ?_
  simp only [Act.put, List.setIfInBounds_toArray, List.set_cons_zero, List.set_cons_succ]
  refine takeD (i := 1) (d := some 6) (v := (.agg k.L.toArray)) rfl (by kernel_rfl) (by kernel_rfl) (by kernel_rfl) rfl (fun _ _ _ h => h) (Or.inl ⟨by kernel_rfl, fun w9 hw => y_key rfl rfl hw.2⟩) hHeld ?_
  simp only [Act.put, List.setIfInBounds_toArray, List.set_cons_zero, List.set_cons_succ]
  refine takeD (i := 3) (d := some 8) (v := (.pointer (some ⟨g, 0, none⟩))) rfl (by kernel_rfl) (by kernel_rfl) (by kernel_rfl) rfl (fun _ _ _ h => h) (Or.inl ⟨by kernel_rfl, fun w9 hw => y_nil rfl rfl⟩) hHeld ?_
  simp only [Act.put, List.setIfInBounds_toArray, List.set_cons_zero, List.set_cons_succ]
  refine takeD (i := 4) (d := some 9) (v := (.pointer (some ⟨g, 0, none⟩))) rfl (by kernel_rfl) (by kernel_rfl) (by kernel_rfl) rfl (fun _ _ _ h => h) (Or.inl ⟨by kernel_rfl, fun w9 hw => y_xt rfl rfl⟩) hHeld ?_
  simp only [Act.put, List.setIfInBounds_toArray, List.set_cons_zero, List.set_cons_succ]
  refine readyD (i := 2) (d := some 7) rfl (by kernel_rfl) rfl (by kernel_rfl) fun K hK => ?_
  refine op_c1 (fun _ _ => rfl) rfl rfl (shard_any k _) ?_
  rintro e w2 ⟨rfl, hm2⟩
  have HM2 := Lib.hid (show Mod no w1 w2 from (Mod.refl no _).drew.and_then hm2)
  refine ⟨_, rfl, hK _ _ ⟨hHeld.1.mod hm2 (fun _ _ c => c), range_mod hHeld.2 hm2 (fun c => c)⟩ fun hHeld9 => ?_⟩
  clear hK K hHeld
  have hHeld := hHeld9
  clear hHeld9
  simp only [Act.put, List.setIfInBounds_toArray, List.set_cons_zero, List.set_cons_succ]
  refine takeD (i := 5) (d := some 10) (v := (.pointer (some ⟨g, shard k, none⟩))) rfl (by kernel_rfl) (by kernel_rfl) (by kernel_rfl) rfl (fun _ _ _ h => h) (Or.inl ⟨by kernel_rfl, fun w9 hw => y_xi rfl rfl rfl (shard_lt k)⟩) hHeld ?_
  simp only [Act.put, List.setIfInBounds_toArray, List.set_cons_zero, List.set_cons_succ]
  refine takeD (i := 6) (d := some 11) (v := (.pointer (some ⟨P (shard k), 0, none⟩))) rfl (by kernel_rfl) (by kernel_rfl) (by kernel_rfl) rfl (fun _ _ _ h => h) (Or.inl ⟨by kernel_rfl, fun w9 hw => y_pt rfl rfl ((hw.1.b.cell _).trans (ptrs_get P (shard_lt k))) rfl⟩) hHeld ?_
  simp only [Act.put, List.setIfInBounds_toArray, List.set_cons_zero, List.set_cons_succ]
  refine takeD (i := 7) (d := some 4) (v := (.pointer (some ⟨P (shard k), 0, none⟩))) rfl (by kernel_rfl) (by kernel_rfl) (by kernel_rfl) rfl (fun _ _ _ h => h) (Or.inl ⟨by kernel_rfl, fun w9 hw => y_assign rfl rfl⟩) hHeld ?_
  simp only [Act.put, List.setIfInBounds_toArray, List.set_cons_zero, List.set_cons_succ]
  refine wpAnyH_done (by kernel_rfl) ?_ _
  go_wp2_with fail
  go_ret
  exact ⟨rfl, HA.out.2.and_then HM2.out⟩
def W2 (w : World) (k : Key) : World := (w.alloc (.cells k.L.toArray 39)).alloc (.cells #[.int .i64 0, .int .i64 0, .int .i64 0, .int .u32 0] 56)
theorem w2_facts (w : World) (k : Key) : Mod no w (W2 w k) ∧ (W2 w k).rangeAt w.heap.size 0 k.L ∧ Blk (W2 w k) (w.heap.size + 1) 56 e0.L.toArray := by
  exact ⟨((Mod.refl no w).alloc _).alloc _, blk_range ((Blk.new w 39 k.L.toArray).alloc _), Blk.new_at (w.alloc (.cells k.L.toArray 39)) 56 e0.L.toArray (by simp)⟩
set_option maxRecDepth 100000 in
theorem ixget_any {w : World} {g : Nat} {R : Nat → Prop} {T : Nat → Tab Key Ent} {P : Nat → Nat} {Rs : Nat → Nat → Prop} (h : IxAt w g R T P Rs) (k : Key) : Calls Try.prog 52 #[.pointer (some ⟨g, 0, none⟩), .agg k.L.toArray] w fun e w' => (∃ r, e = .returned (gotV r) ∧ TB.Found (IL T) k r) ∧ Mod no w w' := by
  have hw := w2_facts w k
  have HA := Lib.hid (And.intro (And.intro ((h.small).mod hw.1 (fun _ _ c => c)) hw.2) hw.1)
  obtain ⟨R0, hR0⟩ : ∃ R0, R0 = TB.small R w := ⟨_, rfl⟩
  rw [← hR0] at HA
  have HR0 := Lib.hid hR0
  clear h hw hR0
  go_enter Try.func52, Try.ntmps52
  go_upto_region 3 with (first
    | (go_at_call 53; refine (there_any HA.out.1.1).mono ?_; rintro e w' ⟨rfl, rfl⟩))
  obtain ⟨w2, hw2⟩ : ∃ w2, w2 = W2 w k := ⟨_, rfl⟩
  rw [← hw2] at HA ⊢
  clear hw2
  obtain ⟨h0, hh0⟩ : ∃ h0, h0 = w.heap.size := ⟨_, rfl⟩
  have HH := Lib.hid hh0
  rw [← hh0] at HA ⊢
  clear hh0
  have HRS := Lib.hid (show ∀ x, R0 x → x < h0 from fun x hx => by rw [HR0.out] at hx; rw [HH.out]; exact hx.2)
  refine wp_region_held_drew (S := fun w' => IxAt w' g R0 T P Rs ∧ w'.rangeAt h0 0 k.L ∧ ∃ e : Ent, Blk w' (h0 + 1) 56 e.L.toArray) (by kernel_rfl) ⟨HA.out.1.1.drew, HA.out.1.2.1, e0, HA.out.1.2.2⟩ (fun hHeld => ?_)
  refine takeD (i := 0) (d := some 10) (v := (.pointer (some ⟨g, 0, none⟩))) rfl (by kernel_rfl) (by kernel_rfl) (by kernel_rfl) rfl (fun _ _ _ h => h) (Or.inl ⟨by kernel_rfl, fun w9 hw => y_move rfl rfl⟩) hHeld ?_
  simp only [Act.put, List.setIfInBounds_toArray, List.set_cons_zero, List.set_cons_succ]
  refine takeD (i := 1) (d := some 11) (v := (.agg k.L.toArray)) rfl (by kernel_rfl) (by kernel_rfl) (by kernel_rfl) rfl (fun _ _ _ h => h) (Or.inl ⟨by kernel_rfl, fun w9 hw => y_key rfl rfl hw.2.1⟩) hHeld ?_
  simp only [Act.put, List.setIfInBounds_toArray, List.set_cons_zero, List.set_cons_succ]
  refine takeD (i := 3) (d := some 13) (v := (.agg k.L.toArray)) rfl (by kernel_rfl) (by kernel_rfl) (by kernel_rfl) rfl (fun _ _ _ h => h) (Or.inl ⟨by kernel_rfl, fun w9 hw => y_key rfl rfl hw.2.1⟩) hHeld ?_
  simp only [Act.put, List.setIfInBounds_toArray, List.set_cons_zero, List.set_cons_succ]
  refine readyD (i := 2) (d := some 12) rfl (by kernel_rfl) rfl (by kernel_rfl) fun K hK => ?_
  refine op_c2 (fun _ _ => rfl) rfl rfl rfl (of_any hHeld.1 k) ?_
  rintro e w3 ⟨rfl, hm3⟩
  have HM3 := Lib.hid (show Mod no w2 w3 from (Mod.refl no _).drew.and_then hm3)
  refine ⟨_, rfl, hK _ _ ⟨hHeld.1.mod hm3 (fun _ _ c => c), range_mod hHeld.2.1 hm3 (fun c => c), hHeld.2.2.imp fun _ h => h.mod hm3 (fun c => c)⟩ fun hHeld9 => ?_⟩
  clear hK K hHeld
  have hHeld := hHeld9
  clear hHeld9
  simp only [Act.put, List.setIfInBounds_toArray, List.set_cons_zero, List.set_cons_succ]
  refine readyD (i := 4) (d := some 14) rfl (by kernel_rfl) rfl (by kernel_rfl) fun K hK => ?_
  refine op_c2 (fun _ _ => rfl) rfl rfl rfl (get_any (hHeld.1.t _ (shard_lt k)) (hHeld.1.wf _ (shard_lt k)) k) ?_
  rintro e w4 ⟨⟨r, rfl, hf⟩, hm4⟩
  have HF := Lib.hid (And.intro (hHeld.1.found hf) (show Mod no w2 w4 from HM3.out.and_then hm4))
  refine ⟨_, rfl, hK _ _ ⟨hHeld.1.mod hm4 (fun _ _ c => c), range_mod hHeld.2.1 hm4 (fun c => c), hHeld.2.2.imp fun _ h => h.mod hm4 (fun c => c)⟩ fun hHeld9 => ?_⟩
  clear hK K hHeld
  have hHeld := hHeld9
  clear hHeld9
  simp only [Act.put, List.setIfInBounds_toArray, List.set_cons_zero, List.set_cons_succ]
  refine takeD (i := 5) (d := some 15) (v := (.agg (r.getD e0).L.toArray)) rfl (by kernel_rfl) (by kernel_rfl) (by kernel_rfl) rfl (fun _ _ _ h => h) (Or.inl ⟨by kernel_rfl, fun w9 hw => y_ext rfl (gotV_eq r) rfl⟩) hHeld ?_
  simp only [Act.put, List.setIfInBounds_toArray, List.set_cons_zero, List.set_cons_succ]
  refine takeD (i := 6) (d := some 16) (v := (.bool r.isSome)) rfl (by kernel_rfl) (by kernel_rfl) (by kernel_rfl) rfl (fun _ _ _ h => h) (Or.inl ⟨by kernel_rfl, fun w9 hw => y_ext rfl (gotV_eq r) rfl⟩) hHeld ?_
  simp only [Act.put, List.setIfInBounds_toArray, List.set_cons_zero, List.set_cons_succ]
  refine readyD (i := 7) (d := none) rfl (by kernel_rfl) rfl (by kernel_rfl) fun K hK => ?_
  obtain ⟨ee, hb⟩ := hHeld.2.2
  refine wp_store_mid 56 (.tmp 4) (.tmp 15) rfl (h0 + 1) 0 (r.getD e0).L.toArray rfl rfl (by exact blk_there hb 0 4 (Nat.le_refl 4)) (ent_sizeG _) (all_oneCell_toArray (ent_ones _)) ?_
  have m5 : Mod no w (World.setCells w4 (h0 + 1) 0 (r.getD e0).L) := mod_setCells (fun c => by have := HH.out; omega) _ _ _ (HA.out.2.and_then HF.out.2)
  have m5' : Mod (one (h0 + 1)) w4 (World.setCells w4 (h0 + 1) 0 (r.getD e0).L) := mod_setCells (S := one (h0 + 1)) (fun _ => rfl) _ _ _ (Mod.refl _ _)
  have r5 : (World.setCells w4 (h0 + 1) 0 (r.getD e0).L).rangeAt (h0 + 1) 0 (r.getD e0).L := World.rangeAt_setCells_same _ _ _ _ (blk_there hb 0 4 (Nat.le_refl 4))
  have H5 := Lib.hid (And.intro m5 r5)
  refine hK _ _ ⟨hHeld.1.mod m5' (fun x hx c => by have c : x = h0 + 1 := c; have := HRS.out x hx; omega), range_mod hHeld.2.1 m5' (fun c => by have c : h0 = h0 + 1 := c; omega), r.getD e0, by have := blk_sets (h0 + 1) (r.getD e0).L 0 ee.L w4 hb (Nat.le_refl 4); exact this⟩ fun hHeld9 => ?_
  clear hK K hHeld hb
  have hHeld := hHeld9
  clear hHeld9
  simp only [Act.put, List.setIfInBounds_toArray, List.set_cons_zero, List.set_cons_succ]
  refine takeD (i := 8) (d := some 5) (v := (.bool r.isSome)) rfl (by kernel_rfl) (by kernel_rfl) (by kernel_rfl) rfl (fun _ _ _ h => h) (Or.inl ⟨by kernel_rfl, fun w9 hw => y_assign rfl rfl⟩) hHeld ?_
  simp only [Act.put, List.setIfInBounds_toArray, List.set_cons_zero, List.set_cons_succ]
  refine wpAnyH_done (by kernel_rfl) ?_ _
  go_wp2_with fail
  exact bodyPost_ret (v := .tuple #[.agg (r.getD e0).L.toArray, .bool r.isSome]) (ret_two (p := 4) (u := 5) (ty := 56) rfl _ _ (h0 + 1) (r.getD e0).L _ rfl rfl H5.out.2 Try.underlying56 rfl (ent_sizeG _)) rfl ⟨⟨r, by rw [gotV_eq], HF.out.1⟩, H5.out.1⟩
end Go.Proofs.Ytknbehjhaaidoaa.IX

