/- An index: Put. -/
import Derived.Test.YtknbehjhaaidoaaIxC
namespace Go.Proofs.Ytknbehjhaaidoaa.IX
open Go.RowKit Mem HD TB
set_option linter.unusedVariables false
set_option linter.unusedSimpArgs false
def W2e (w : World) (k : Key) (v : Ent) : World := (w.alloc (.cells k.L.toArray 39)).alloc (.cells v.L.toArray 56)
theorem w2e_facts (w : World) (k : Key) (v : Ent) : Mod no w (W2e w k v) ∧ (W2e w k v).rangeAt w.heap.size 0 k.L ∧ Blk (W2e w k v) (w.heap.size + 1) 56 v.L.toArray := by
  exact ⟨((Mod.refl no w).alloc _).alloc _, blk_range ((Blk.new w 39 k.L.toArray).alloc _), Blk.new_at (w.alloc (.cells k.L.toArray 39)) 56 v.L.toArray (by simp)⟩
set_option maxRecDepth 100000 in
theorem ixput_any {w : World} {g : Nat} {R : Nat → Prop} {T : Nat → Tab Key Ent} {P : Nat → Nat} {Rs : Nat → Nat → Prop} (h : IxAt w g R T P Rs) (hb : ∀ i, i < 16 → (T i).L.length < 1073741824) (k : Key) (v : Ent) : Calls Try.prog 20 #[.pointer (some ⟨g, 0, none⟩), .agg k.L.toArray, .agg v.L.toArray] w fun e w' => ∃ r, e = .returned (.bool (!(r : Option Ent).isSome)) ∧ TB.Found (IL T) k r ∧ (∃ T', (IL T').Perm (if r.isSome then IL T else (k, v) :: IL T) ∧ ∃ Rs', IxAt w' g (ext R w w') T' P Rs') ∧ Mod R w w' := by
  have hw := w2e_facts w k v
  have HA := Lib.hid (And.intro (And.intro ((h.small).mod hw.1 (fun _ _ c => c)) hw.2) hw.1)
  obtain ⟨R0, hR0⟩ : ∃ R0, R0 = TB.small R w := ⟨_, rfl⟩
  rw [← hR0] at HA
  have HR0 := Lib.hid hR0
  have HB := Lib.hid hb
  clear h hw hR0 hb
  go_enter Try.func20, Try.ntmps20
  go_upto_region 1 with fail
  obtain ⟨w2, hw2⟩ : ∃ w2, w2 = W2e w k v := ⟨_, rfl⟩
  rw [← hw2] at HA
  change Code.wp _ _ _ _ (W2e w k v)
  rw [← hw2]
  clear hw2
  obtain ⟨h0, hh0⟩ : ∃ h0, h0 = w.heap.size := ⟨_, rfl⟩
  have HH := Lib.hid hh0
  rw [← hh0] at HA ⊢
  clear hh0
  have HRS := Lib.hid (show ∀ x, R0 x → x < h0 from fun x hx => by rw [HR0.out] at hx; rw [HH.out]; exact hx.2)
  have HNS := Lib.hid (show ∀ x, h0 ≤ x → ¬ Rs (shard k) x from fun x hx c => by have := HRS.out x (HA.out.1.1.sub _ (shard_lt k) x c).1; omega)
  go_upto_region 2 with (first
    | (refine wpList_load_mid rfl 39 (.tmp 4) (by rfl) h0 0 (by rfl) k.L _ (by exact HA.out.1.2.1) Try.underlying39 rfl (key_sizeG k.len) ?_)
    | (go_at_call 52; refine (ixget_any HA.out.1.1 k).mono ?_; rintro e w3 ⟨⟨r, rfl, hf⟩, hm3⟩; rw [gotV_eq]; have H3 := Lib.hid (And.intro hf hm3); clear hf hm3)
    | (refine wpList_store_mid rfl 56 (.tmp 7) (.tmp 13) (by rfl) w3.heap.size 0 (r.getD e0).L.toArray (by rfl) (by rfl) (by exact blk_there (Blk.new w3 56 e0.L.toArray) 0 4 (Nat.le_refl 4)) (ent_sizeG _) (all_oneCell_toArray (ent_ones _)) ?_))
  obtain ⟨w4, hw4⟩ : ∃ w4, w4 = World.setCells (w3.alloc (.cells #[.int .i64 0, .int .i64 0, .int .i64 0, .int .u32 0] 56)) w3.heap.size 0 (r.getD e0).L.toArray.toList := ⟨_, rfl⟩
  have m34 : Mod no w3 w4 := by rw [hw4]; exact mod_setCells (fun c => by omega) _ _ _ ((Mod.refl no w3).alloc _)
  rw [← hw4]
  clear hw4
  have m24 := H3.out.2.and_then m34
  have H4 := Lib.hid (show IxAt w4 g R0 T P Rs ∧ w4.rangeAt h0 0 k.L ∧ Blk w4 (h0 + 1) 56 v.L.toArray ∧ Mod no w w4 from ⟨HA.out.1.1.mod m24 (fun _ _ c => c), range_mod HA.out.1.2.1 m24 (fun c => c), HA.out.1.2.2.mod m24 (fun c => c), HA.out.2.and_then m24⟩)
  clear m34 m24
  cases r with
  | some e =>
    go_wp2_with fail
    go_ret
    refine ⟨some e, rfl, H3.out.1, ⟨T, .refl _, Rs, H4.out.1.mono fun x hx => ?_⟩, H4.out.2.2.2.mono (fun _ _ c => c.elim)⟩
    rw [HR0.out] at hx; exact .inl hx.1
  | none =>
    go_upto_region 4 with (first
      | (go_at_call 53; refine (there_any H4.out.1).mono ?_; rintro e w9 ⟨rfl, hw9⟩; obtain rfl := hw9.symm))
    refine wp_region_held_drew (S := fun w' => w'.rangeAt h0 0 k.L ∧ Blk w' (h0 + 1) 56 v.L.toArray) (by kernel_rfl) ⟨H4.out.2.1, H4.out.2.2.1⟩ (fun hHeld => ?_)
    refine takeD (i := 0) (d := some 21) (v := (.pointer (some ⟨g, 0, none⟩))) rfl (by kernel_rfl) (by kernel_rfl) (by kernel_rfl) rfl (fun _ _ _ h => h) (Or.inl ⟨by kernel_rfl, fun w9 hw => y_move rfl rfl⟩) hHeld ?_
    simp only [Act.put, List.setIfInBounds_toArray, List.set_cons_zero, List.set_cons_succ]
    refine takeD (i := 1) (d := some 22) (v := (.agg k.L.toArray)) rfl (by kernel_rfl) (by kernel_rfl) (by kernel_rfl) rfl (fun _ _ _ h => h) (Or.inl ⟨by kernel_rfl, fun w9 hw => y_key rfl rfl hw.1⟩) hHeld ?_
    simp only [Act.put, List.setIfInBounds_toArray, List.set_cons_zero, List.set_cons_succ]
    refine takeD (i := 3) (d := some 24) (v := (.agg k.L.toArray)) rfl (by kernel_rfl) (by kernel_rfl) (by kernel_rfl) rfl (fun _ _ _ h => h) (Or.inl ⟨by kernel_rfl, fun w9 hw => y_key rfl rfl hw.1⟩) hHeld ?_
    simp only [Act.put, List.setIfInBounds_toArray, List.set_cons_zero, List.set_cons_succ]
    refine takeD (i := 4) (d := some 25) (v := (.agg v.L.toArray)) rfl (by kernel_rfl) (by kernel_rfl) (by kernel_rfl) rfl (fun _ _ _ h => h) (Or.inl ⟨by kernel_rfl, fun w9 hw => y_ent rfl rfl (blk_range hw.2)⟩) hHeld ?_
    simp only [Act.put, List.setIfInBounds_toArray, List.set_cons_zero, List.set_cons_succ]
    refine readyD (i := 2) (d := some 23) rfl (by kernel_rfl) rfl (by kernel_rfl) fun K hK => ?_
    refine op_c2 (fun _ _ => rfl) rfl rfl rfl (of_any H4.out.1.drew k) ?_
    rintro e w5 ⟨rfl, hm5⟩
    have H5 := Lib.hid (And.intro (H4.out.1.drew.mod hm5 (fun _ _ c => c)) (show Mod no w4 w5 from (Mod.refl no _).drew.and_then hm5))
    refine ⟨_, rfl, hK _ _ ⟨range_mod hHeld.1 hm5 (fun c => c), hHeld.2.mod hm5 (fun c => c)⟩ fun hHeld9 => ?_⟩
    clear hK K hHeld
    have hHeld := hHeld9
    clear hHeld9
    simp only [Act.put, List.setIfInBounds_toArray, List.set_cons_zero, List.set_cons_succ]
    refine readyD (i := 5) (d := some 26) rfl (by kernel_rfl) rfl (by kernel_rfl) fun K hK => ?_
    refine op_c3 (fun _ _ => rfl) rfl rfl rfl rfl (put_any (H5.out.1.t _ (shard_lt k)) (H5.out.1.wf _ (shard_lt k)) (HB.out _ (shard_lt k)) k v) ?_
    rintro e w6 ⟨⟨r, rfl, hf⟩, ⟨t', hwf, hp, htt⟩, hm6⟩
    have HX := Lib.hid (And.intro hp (H5.out.1.one (shard_lt k) hm6 hwf (H5.out.1.put_sh hp) htt))
    have HF := Lib.hid (show Mod R0 w4 w6 from (H5.out.2.mono (fun _ _ c => c.elim)).and_then (hm6.mono fun x _ c => (H5.out.1.sub _ (shard_lt k) x c).1))
    refine ⟨_, rfl, hK _ _ ⟨range_mod hHeld.1 hm6 (HNS.out _ (Nat.le_refl _)), hHeld.2.mod hm6 (HNS.out _ (Nat.le_succ _))⟩ fun hHeld9 => ?_⟩
    clear hK K hHeld
    have hHeld := hHeld9
    clear hHeld9
    simp only [Act.put, List.setIfInBounds_toArray, List.set_cons_zero, List.set_cons_succ]
    refine wpAnyH_done (by kernel_rfl) ?_ _
    go_wp2_with fail
    go_ret
    have hs5 := H5.out.2.size
    have hs4 := H4.out.2.2.2.size
    have hno : less (IL T) k = IL T := less_no fun v' hm => nomatch (H3.out.1 v').2 hm
    refine ⟨none, rfl, H3.out.1, ⟨_, by have := H4.out.1.putP HX.out.1; rw [hno] at this; exact this, _, HX.out.2.mono fun x hx => ?_⟩, (H4.out.2.2.2.mono (fun _ _ c => c.elim)).and_then (HF.out.mono fun x _ c => by rw [HR0.out] at c; exact c.1)⟩
    rcases hx with hx | hx
    · rw [HR0.out] at hx; exact .inl hx.1
    · exact .inr ⟨by have := hx.1; omega, hx.2⟩
end Go.Proofs.Ytknbehjhaaidoaa.IX

