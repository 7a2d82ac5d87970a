/- An index: Del. -/
import Derived.Test.YtknbehjhaaidoaaIxB
import Derived.Test.YtknbehjhaaidoaaTbI
import Derived.Test.YtknbehjhaaidoaaTbK
namespace Go.Proofs.Ytknbehjhaaidoaa.IX
open Go.RowKit Mem HD TB
set_option linter.unusedVariables false
set_option linter.unusedSimpArgs false
theorem flat_perm {α : Type} {f g : Nat → List α} : ∀ l : List Nat, (∀ j ∈ l, (f j).Perm (g j)) → (l.flatMap f).Perm (l.flatMap g)
  | [], _ => .refl _
  | a :: l, h => by
    rw [List.flatMap_cons, List.flatMap_cons]
    exact (h a List.mem_cons_self).append (flat_perm l fun j hj => h j (List.mem_cons_of_mem _ hj))
theorem flat_cons {α : Type} {f g : Nat → List α} {x : α} {i : Nat} : ∀ n, i < n → (∀ j, j < n → j ≠ i → (f j).Perm (g j)) → (f i).Perm (x :: g i) → ((List.range n).flatMap f).Perm (x :: (List.range n).flatMap g)
  | 0, h, _, _ => absurd h (Nat.not_lt_zero _)
  | n + 1, h, ho, hi => by
    rw [List.range_succ, List.flatMap_append, List.flatMap_append, List.flatMap_singleton, List.flatMap_singleton]
    by_cases e : i = n
    · subst e
      exact ((flat_perm (List.range i) fun j hj => ho j (by have := List.mem_range.1 hj; omega) (by have := List.mem_range.1 hj; omega)).append hi).trans List.perm_middle
    · exact (flat_cons n (by omega) (fun j hj hne => ho j (by omega) hne) hi).append (ho n (by omega) (fun c => e c.symm))
theorem less_IL (T : Nat → Tab Key Ent) (k : Key) : less (IL T) k = (List.range 16).flatMap fun i => less (T i).L k := by
  unfold IL less
  rw [List.filter_flatMap]
section
variable {w w' : World} {g : Nat} {R : Nat → Prop} {T : Nat → Tab Key Ent} {P : Nat → Nat} {Rs : Nat → Nat → Prop}
theorem IxAt.far (h : IxAt w g R T P Rs) {k : Key} {j : Nat} (hj : j < 16) (hne : j ≠ shard k) : less (T j).L k = (T j).L := less_no fun v hm => hne (h.sh j hj k v hm).symm
theorem IxAt.less_sh (h : IxAt w g R T P Rs) {i : Nat} (hi : i < 16) {t' : Tab Key Ent} {k : Key} (p : t'.L.Perm (less (T i).L k)) : ∀ k' v, (k', v) ∈ t'.L → shard k' = i := fun k' v hm => h.sh i hi k' v (less_mem.1 (p.mem_iff.1 hm)).1
theorem IxAt.put_sh (h : IxAt w g R T P Rs) {t' : Tab Key Ent} {k : Key} {v : Ent} (p : t'.L.Perm ((k, v) :: less (T (shard k)).L k)) : ∀ k' v, (k', v) ∈ t'.L → shard k' = shard k := fun k' v' hm => by
  rcases List.mem_cons.1 (p.mem_iff.1 hm) with c | c
  · injection c with c1 c2; rw [c1]
  · exact h.sh _ (shard_lt k) k' v' (less_mem.1 c).1
theorem IxAt.lessP (h : IxAt w g R T P Rs) {k : Key} {t' : Tab Key Ent} (p : t'.L.Perm (less (T (shard k)).L k)) : (IL fun j => if j = shard k then t' else T j).Perm (less (IL T) k) := by
  rw [less_IL]
  refine flat_perm _ fun j hj => ?_
  by_cases e : j = shard k
  · subst e; simp only [if_pos]; exact p
  · simp only [if_neg e]; rw [h.far (List.mem_range.1 hj) e]
theorem IxAt.putP (h : IxAt w g R T P Rs) {k : Key} {v : Ent} {t' : Tab Key Ent} (p : t'.L.Perm ((k, v) :: less (T (shard k)).L k)) : (IL fun j => if j = shard k then t' else T j).Perm ((k, v) :: less (IL T) k) := by
  rw [less_IL]
  refine flat_cons 16 (shard_lt k) (fun j hj e => ?_) ?_
  · simp only [if_neg e]; rw [h.far hj e]
  · simp only [if_pos]; exact p
end
set_option maxRecDepth 100000 in
theorem ixdel_any {w : World} {g : Nat} {R : Nat → Prop} {T : Nat → Tab Key Ent} {P : Nat → Nat} {Rs : Nat → Nat → Prop} (h : IxAt w g R T P Rs) (k : Key) : Calls Try.prog 24 #[.pointer (some ⟨g, 0, none⟩), .agg k.L.toArray] w fun e w' => (∃ r, e = .returned (gotV r) ∧ TB.Found (IL T) k r) ∧ (∃ T' Rs', (IL T').Perm (less (IL T) k) ∧ IxAt w' g (ext R w w') T' P Rs') ∧ Mod R w w' := by
  have hw := w2_facts w k
  have HA := Lib.hid (And.intro (And.intro ((h.small).mod hw.1 (fun _ _ c => c)) hw.2) hw.1)
  obtain ⟨R0, hR0⟩ : ∃ R0, R0 = TB.small R w := ⟨_, rfl⟩
  rw [← hR0] at HA
  have HR0 := Lib.hid hR0
  clear h hw hR0
  go_enter Try.func24, Try.ntmps24
  go_upto_region 3 with (first
    | (go_at_call 53; refine (there_any HA.out.1.1).mono ?_; rintro e w' ⟨rfl, rfl⟩))
  obtain ⟨w2, hw2⟩ : ∃ w2, w2 = W2 w k := ⟨_, rfl⟩
  rw [← hw2] at HA ⊢
  clear hw2
  obtain ⟨h0, hh0⟩ : ∃ h0, h0 = w.heap.size := ⟨_, rfl⟩
  have HH := Lib.hid hh0
  rw [← hh0] at HA ⊢
  clear hh0
  have HRS := Lib.hid (show ∀ x, R0 x → x < h0 from fun x hx => by rw [HR0.out] at hx; rw [HH.out]; exact hx.2)
  have HNS := Lib.hid (show ∀ x, h0 ≤ x → ¬ Rs (shard k) x from fun x hx c => by have := HRS.out x (HA.out.1.1.sub _ (shard_lt k) x c).1; omega)
  refine wp_region_held_drew (S := fun w' => w'.rangeAt h0 0 k.L ∧ ∃ e : Ent, Blk w' (h0 + 1) 56 e.L.toArray) (by kernel_rfl) ⟨HA.out.1.2.1, e0, HA.out.1.2.2⟩ (fun hHeld => ?_)
  refine takeD (i := 0) (d := some 10) (v := (.pointer (some ⟨g, 0, none⟩))) rfl (by kernel_rfl) (by kernel_rfl) (by kernel_rfl) rfl (fun _ _ _ h => h) (Or.inl ⟨by kernel_rfl, fun w9 hw => y_move rfl rfl⟩) hHeld ?_
  simp only [Act.put, List.setIfInBounds_toArray, List.set_cons_zero, List.set_cons_succ]
  refine takeD (i := 1) (d := some 11) (v := (.agg k.L.toArray)) rfl (by kernel_rfl) (by kernel_rfl) (by kernel_rfl) rfl (fun _ _ _ h => h) (Or.inl ⟨by kernel_rfl, fun w9 hw => y_key rfl rfl hw.1⟩) hHeld ?_
  simp only [Act.put, List.setIfInBounds_toArray, List.set_cons_zero, List.set_cons_succ]
  refine takeD (i := 3) (d := some 13) (v := (.agg k.L.toArray)) rfl (by kernel_rfl) (by kernel_rfl) (by kernel_rfl) rfl (fun _ _ _ h => h) (Or.inl ⟨by kernel_rfl, fun w9 hw => y_key rfl rfl hw.1⟩) hHeld ?_
  simp only [Act.put, List.setIfInBounds_toArray, List.set_cons_zero, List.set_cons_succ]
  refine readyD (i := 2) (d := some 12) rfl (by kernel_rfl) rfl (by kernel_rfl) fun K hK => ?_
  refine op_c2 (fun _ _ => rfl) rfl rfl rfl (of_any HA.out.1.1.drew k) ?_
  rintro e w3 ⟨rfl, hm3⟩
  have HM3 := Lib.hid (And.intro (HA.out.1.1.drew.mod hm3 (fun _ _ c => c)) (show Mod no w2 w3 from (Mod.refl no _).drew.and_then hm3))
  refine ⟨_, rfl, hK _ _ ⟨range_mod hHeld.1 hm3 (fun c => c), hHeld.2.imp fun _ h => h.mod hm3 (fun c => c)⟩ fun hHeld9 => ?_⟩
  clear hK K hHeld
  have hHeld := hHeld9
  clear hHeld9
  simp only [Act.put, List.setIfInBounds_toArray, List.set_cons_zero, List.set_cons_succ]
  refine readyD (i := 4) (d := some 14) rfl (by kernel_rfl) rfl (by kernel_rfl) fun K hK => ?_
  refine op_c2 (fun _ _ => rfl) rfl rfl rfl (del_any (HM3.out.1.t _ (shard_lt k)) (HM3.out.1.wf _ (shard_lt k)) k) ?_
  rintro e w4 ⟨⟨r, rfl, hf⟩, ⟨t', hwf, hp, htt⟩, hm4⟩
  have HX := Lib.hid (And.intro hp (HM3.out.1.one (shard_lt k) hm4 hwf (HM3.out.1.less_sh (shard_lt k) hp) (htt.mono fun _ h => .inl h)))
  have HF := Lib.hid (And.intro (HM3.out.1.found hf) (show Mod R0 w2 w4 from (HM3.out.2.mono (fun _ _ c => c.elim)).and_then (hm4.mono fun x _ c => (HM3.out.1.sub _ (shard_lt k) x c).1)))
  refine ⟨_, rfl, hK _ _ ⟨range_mod hHeld.1 hm4 (HNS.out _ (Nat.le_refl _)), hHeld.2.imp fun _ h => h.mod hm4 (HNS.out _ (Nat.le_succ _))⟩ fun hHeld9 => ?_⟩
  clear hK K hHeld
  have hHeld := hHeld9
  clear hHeld9
  simp only [Act.put, List.setIfInBounds_toArray, List.set_cons_zero, List.set_cons_succ]
  refine takeD (i := 5) (d := some 15) (v := (.agg (r.getD e0).L.toArray)) rfl (by kernel_rfl) (by kernel_rfl) (by kernel_rfl) rfl (fun _ _ _ h => h) (Or.inl ⟨by kernel_rfl, fun w9 hw => y_ext rfl (gotV_eq r) rfl⟩) hHeld ?_
  simp only [Act.put, List.setIfInBounds_toArray, List.set_cons_zero, List.set_cons_succ]
  refine takeD (i := 6) (d := some 16) (v := (.bool r.isSome)) rfl (by kernel_rfl) (by kernel_rfl) (by kernel_rfl) rfl (fun _ _ _ h => h) (Or.inl ⟨by kernel_rfl, fun w9 hw => y_ext rfl (gotV_eq r) rfl⟩) hHeld ?_
  simp only [Act.put, List.setIfInBounds_toArray, List.set_cons_zero, List.set_cons_succ]
  refine readyD (i := 7) (d := none) rfl (by kernel_rfl) rfl (by kernel_rfl) fun K hK => ?_
  obtain ⟨ee, hb⟩ := hHeld.2
  refine wp_store_mid 56 (.tmp 4) (.tmp 15) rfl (h0 + 1) 0 (r.getD e0).L.toArray rfl rfl (by exact blk_there hb 0 4 (Nat.le_refl 4)) (ent_sizeG _) (all_oneCell_toArray (ent_ones _)) ?_
  have m5 : Mod R0 w (World.setCells w4 (h0 + 1) 0 (r.getD e0).L) := mod_setCells (fun c => by have := HH.out; omega) _ _ _ ((HA.out.2.mono (fun _ _ c => c.elim)).and_then HF.out.2)
  have m5' : Mod (one (h0 + 1)) w4 (World.setCells w4 (h0 + 1) 0 (r.getD e0).L) := mod_setCells (S := one (h0 + 1)) (fun _ => rfl) _ _ _ (Mod.refl _ _)
  have r5 : (World.setCells w4 (h0 + 1) 0 (r.getD e0).L).rangeAt (h0 + 1) 0 (r.getD e0).L := World.rangeAt_setCells_same _ _ _ _ (blk_there hb 0 4 (Nat.le_refl 4))
  have H5 := Lib.hid (And.intro m5 (And.intro r5 m5'))
  refine hK _ _ ⟨range_mod hHeld.1 m5' (fun c => by have c : h0 = h0 + 1 := c; omega), r.getD e0, by have := blk_sets (h0 + 1) (r.getD e0).L 0 ee.L w4 hb (Nat.le_refl 4); exact this⟩ fun hHeld9 => ?_
  clear hK K hHeld hb
  have hHeld := hHeld9
  clear hHeld9
  simp only [Act.put, List.setIfInBounds_toArray, List.set_cons_zero, List.set_cons_succ]
  refine takeD (i := 8) (d := some 5) (v := (.bool r.isSome)) rfl (by kernel_rfl) (by kernel_rfl) (by kernel_rfl) rfl (fun _ _ _ h => h) (Or.inl ⟨by kernel_rfl, fun w9 hw => y_assign rfl rfl⟩) hHeld ?_
  simp only [Act.put, List.setIfInBounds_toArray, List.set_cons_zero, List.set_cons_succ]
  refine wpAnyH_done (by kernel_rfl) ?_ _
  go_wp2_with fail
  have hs3 := HM3.out.2.size
  have hs2 := HA.out.1.2.2.lt
  have hs5 := H5.out.2.2.size
  have hs := HA.out.2.size
  have hx := HX.out.2.mod H5.out.2.2 (fun x hx c => by
    have c : x = h0 + 1 := c
    rcases hx with hx | hx
    · have := HRS.out x hx; omega
    · have := hx.1; omega)
  have hpost : ∃ T' Rs', (IL T').Perm (less (IL T) k) ∧ IxAt (World.setCells w4 (h0 + 1) 0 (r.getD e0).L) g (ext R w (World.setCells w4 (h0 + 1) 0 (r.getD e0).L)) T' P Rs' := by
    refine ⟨_, _, HA.out.1.1.lessP HX.out.1, hx.mono fun x hx => ?_⟩
    rcases hx with hx | hx
    · rw [HR0.out] at hx; exact .inl hx.1
    · exact .inr ⟨by have := hx.1; omega, by have := hx.2; omega⟩
  obtain ⟨T2, Rs2, q1, q2⟩ := hpost
  exact bodyPost_ret (v := .tuple #[.agg (r.getD e0).L.toArray, .bool r.isSome]) (ret_two (p := 4) (u := 5) (ty := 56) rfl _ _ (h0 + 1) (r.getD e0).L _ rfl rfl H5.out.2.1 Try.underlying56 rfl (ent_sizeG _)) rfl ⟨⟨r, by rw [gotV_eq], HF.out.1⟩, ⟨T2, q1, Rs2, q2⟩, H5.out.1.mono (fun x _ c => by rw [HR0.out] at c; exact c.1)⟩
end Go.Proofs.Ytknbehjhaaidoaa.IX

