/- A table's lay. -/
import Derived.Test.YtknbehjhaaidoaaTbC
namespace Go.Proofs.Ytknbehjhaaidoaa.TB
open Go.RowKit Mem HD
set_option linter.unusedVariables false
set_option linter.unusedSimpArgs false

/-- What lay does to the tombs. -/
theorem range_mod {S : Nat → Prop} {w w' : World} {b o : Nat} {cs : List Value} (h : w.rangeAt b o cs) (m : Mod S w w') (hS : ¬ S b) : w'.rangeAt b o cs := fun j v hv => by
  have h1 := h j v hv
  rw [m.cell (p := ⟨b, o + j, none⟩) (cell_below h1) hS]
  exact h1
set_option maxRecDepth 100000 in
set_option maxHeartbeats 4000000 in
theorem lay_any {w : World} {ga gs u t g d h : Nat} {l : List Sl} {x : Sl} {k : Key} (v : Ent) (ha : ArrAt w ga gs l u (t + x.isTomb.toNat)) (hp : Pow l.length) (hh : h < 18446744073709551616) (hf : find l h k = (none, some g, d))
    (hg : l[g]? = some x) (hx : x = .empty ∨ x = .tomb) (hu : u ≤ 1099511627776) (ht : t ≤ 1099511627776) :
    Calls Try.prog 89 #[.pointer (some ⟨ga, 0, none⟩), .int .u64 (h : Int), .agg k.L.toArray, .agg v.L.toArray] w fun e w' => e = .returned (.tuple #[]) ∧ ArrAt w' ga gs (l.set g (.full k v)) (u + 1) t ∧ Mod (two ga gs) w w' := by
  have hgl : g < l.length := (List.getElem?_eq_some_iff.1 hg).1
  obtain ⟨w1, hw1⟩ : ∃ w1, w1 = (w.alloc (.cells k.L.toArray 39)).alloc (.cells v.L.toArray 56) := ⟨_, rfl⟩
  have hm1 : Mod no w w1 := by rw [hw1]; exact ((Mod.refl no w).alloc _).alloc _
  have hk1 : w1.rangeAt w.heap.size 0 k.L := by rw [hw1]; exact blk_range ((Blk.new w 39 k.L.toArray).alloc _)
  have he1 : w1.rangeAt (w.heap.size + 1) 0 v.L := by rw [hw1]; exact blk_range (Blk.new_at (n := w.heap.size + 1) (w.alloc (.cells k.L.toArray 39)) 56 v.L.toArray (by simp))
  have hs1 : w.heap.size + 1 < w1.heap.size := by rw [hw1]; simp
  have ha1 := ha.mod hm1 (fun c => c) (fun c => c)
  have HF := Lib.hid ((find_any ha1 hp hh k).mono (fun e w' hh' => show e = .returned (.tuple #[.int .i64 (-1), .int .i64 (g : Int), .int .i64 (d : Int)]) ∧ Mod no w1 w' by rw [hf] at hh'; exact hh'))
  have HA := Lib.hid (And.intro ha1 (And.intro hm1 (And.intro hk1 (And.intro he1 hs1))))
  have HS := Lib.hid (And.intro hg (And.intro hgl (And.intro hu (And.intro ht (show ga < w.heap.size ∧ gs < w.heap.size from ⟨ha.a.lt, ha.s.lt⟩)))))
  have HNE := Lib.hid ha.ne
  have HP := Lib.hid hp
  have HW1 := Lib.hid hw1
  clear ha hp hh hf hg hu ht hgl hm1 hk1 he1 hs1 ha1
  go_enter Try.func89, Try.ntmps89
  go_upto_region 1 with fail
  rw [← HW1.out]
  clear hw1
  go_upto_region 2 with (first
    | (refine wpList_load_mid rfl 39 (.tmp 6) (by rfl) w.heap.size 0 (by rfl) k.L _ (by exact HA.out.2.2.1) Try.underlying39 rfl (key_sizeG k.len) ?_)
    | (go_at_call 102; refine HF.out.mono ?_; rintro e w2 ⟨rfl, hm2⟩; have HM2 := Lib.hid hm2; clear hm2))
  have ha2 := HA.out.1.mod HM2.out (fun c => c) (fun c => c)
  have c0 := ha2.a.cell 0
  have c3 := ha2.st HS.out.1
  have g1 : (g : Int) < (l.length : Int) := by have := HS.out.2.1; omega
  have g2 : ¬ (g : Int) < 0 := by omega
  have H2 := Lib.hid (And.intro ha2 (And.intro (range_mod HA.out.2.2.1 HM2.out (fun c => c)) (And.intro (range_mod HA.out.2.2.2.1 HM2.out (fun c => c)) (HA.out.2.1.and_then HM2.out))))
  clear ha2
  rcases hx with rfl | rfl
  · have c3' : w2.cell? ⟨gs, g * 37, none⟩ = some (.int .u8 0) := c3
    have HTT := Lib.hid (show ∀ w3, w3 = w2 → Blk w3 ga 136 #[.slice (some ⟨gs, 0, none⟩) l.length l.length, .int .i64 (u : Int), .int .i64 (t : Int)] ∧ (w3.there gs (g * 37) 37 ∧ Blk (World.setCells w3.drew gs (g * 37) (slotL (.full k v))) gs 133 (rowL (l.set g (.full k v))).flatten.toArray) ∧ w3.rangeAt w.heap.size 0 k.L ∧ w3.rangeAt (w.heap.size + 1) 0 v.L ∧ Mod (two ga gs) w w3 from fun w3 hw3 => by
      subst hw3
      exact ⟨H2.out.1.a, ⟨H2.out.1.there HS.out.2.1, (show ArrAt w3.drew ga gs l u _ from ⟨H2.out.1.a, H2.out.1.s⟩).put HS.out.2.1 _⟩, H2.out.2.1, H2.out.2.2.1, H2.out.2.2.2.mono (fun _ _ c => c.elim)⟩)
    clear c3
    go_upto_region 5 with fail
    obtain ⟨w3, hw3⟩ : ∃ w3, w3 = w2 := ⟨_, rfl⟩
    rw [← hw3]
    have HT := Lib.hid (HTT.out w3 hw3)
    clear hw3 c0
    have hr0 := HT.out.1.cell 0
    refine wp_region_held_drew (S := fun w' => Blk w' ga 136 #[.slice (some ⟨gs, 0, none⟩) l.length l.length, .int .i64 (u : Int), .int .i64 (t : Int)] ∧ w'.rangeAt w.heap.size 0 k.L ∧ w'.rangeAt (w.heap.size + 1) 0 v.L) (by kernel_rfl) ⟨HT.out.1, HT.out.2.2.1, HT.out.2.2.2.1⟩ (fun hHeld => ?_)
    refine takeD (i := 0) (d := some 37) (v := (.pointer (some ⟨ga, 0, none⟩))) rfl (by kernel_rfl) (by kernel_rfl) (by kernel_rfl) rfl (fun _ _ _ h => h) (Or.inl ⟨by kernel_rfl, fun w9 hw => y_move rfl rfl⟩) hHeld ?_
    simp only [Act.put, List.setIfInBounds_toArray, List.set_cons_zero, List.set_cons_succ]
    refine takeD (i := 1) (d := some 38) (v := (.pointer (some ⟨ga, 0, none⟩))) rfl (by kernel_rfl) (by kernel_rfl) (by kernel_rfl) rfl (fun _ _ _ h => h) (Or.inl ⟨by kernel_rfl, fun w9 hw => y_nil rfl rfl⟩) hHeld ?_
    simp only [Act.put, List.setIfInBounds_toArray, List.set_cons_zero, List.set_cons_succ]
    refine takeD (i := 2) (d := some 39) (v := (.pointer (some ⟨ga, 0, none⟩))) rfl (by kernel_rfl) (by kernel_rfl) (by kernel_rfl) rfl (fun _ _ _ h => h) (Or.inl ⟨by kernel_rfl, fun w9 hw => y_fa (by decide) rfl rfl⟩) hHeld ?_
    simp only [Act.put, List.setIfInBounds_toArray, List.set_cons_zero, List.set_cons_succ]
    refine takeD (i := 3) (d := some 40) (v := (.slice (some ⟨gs, 0, none⟩) l.length l.length)) rfl (by kernel_rfl) (by kernel_rfl) (by kernel_rfl) rfl (fun _ _ _ h => h) (Or.inl ⟨by kernel_rfl, fun w9 hw => y_one rfl (by decide) rfl (hw.1.cell 0) rfl⟩) hHeld ?_
    simp only [Act.put, List.setIfInBounds_toArray, List.set_cons_zero, List.set_cons_succ]
    refine takeD (i := 4) (d := some 41) (v := (.int .i64 (g : Int))) rfl (by kernel_rfl) (by kernel_rfl) (by kernel_rfl) rfl (fun _ _ _ h => h) (Or.inl ⟨by kernel_rfl, fun w9 hw => y_move rfl rfl⟩) hHeld ?_
    simp only [Act.put, List.setIfInBounds_toArray, List.set_cons_zero, List.set_cons_succ]
    refine takeD (i := 5) (d := some 42) (v := (.agg k.L.toArray)) rfl (by kernel_rfl) (by kernel_rfl) (by kernel_rfl) rfl (fun _ _ _ h => h) (Or.inl ⟨by kernel_rfl, fun w9 hw => y_key rfl rfl hw.2.1⟩) hHeld ?_
    simp only [Act.put, List.setIfInBounds_toArray, List.set_cons_zero, List.set_cons_succ]
    refine takeD (i := 6) (d := some 43) (v := (.agg v.L.toArray)) rfl (by kernel_rfl) (by kernel_rfl) (by kernel_rfl) rfl (fun _ _ _ h => h) (Or.inl ⟨by kernel_rfl, fun w9 hw => y_ent rfl rfl hw.2.2⟩) hHeld ?_
    simp only [Act.put, List.setIfInBounds_toArray, List.set_cons_zero, List.set_cons_succ]
    refine takeD (i := 7) (d := some 44) (v := (.agg (slotL (.full k v)).toArray)) rfl (by kernel_rfl) (by kernel_rfl) (by kernel_rfl) rfl (fun _ _ _ h => h) (Or.inl ⟨by kernel_rfl, fun w9 hw => y_full rfl rfl rfl rfl⟩) hHeld ?_
    simp only [Act.put, List.setIfInBounds_toArray, List.set_cons_zero, List.set_cons_succ]
    refine takeD (i := 8) (d := some 45) (v := (.pointer (some ⟨gs, g * 37, none⟩))) rfl (by kernel_rfl) (by kernel_rfl) (by kernel_rfl) rfl (fun _ _ _ h => h) (Or.inl ⟨by kernel_rfl, fun w9 hw => y_ix rfl rfl rfl HS.out.2.1⟩) hHeld ?_
    simp only [Act.put, List.setIfInBounds_toArray, List.set_cons_zero, List.set_cons_succ]
    refine readyD (i := 9) (d := none) rfl (by kernel_rfl) rfl (by kernel_rfl) fun K hK => ?_
    refine wp_store_mid 133 (.tmp 45) (.tmp 44) rfl gs (g * 37) (slotL (.full k v)).toArray rfl rfl (by rw [List.size_toArray, slotL_len]; exact HT.out.2.1.1) (slot_sizeG _) (all_oneCell_toArray (slot_ones _)) ?_
    have mS : Mod (one gs) w3.drew (World.setCells w3.drew gs (g * 37) (slotL (.full k v))) := mod_setCells (S := one gs) (fun _ => rfl) _ _ _ (Mod.refl _ _)
    have hS4 := HT.out.2.1.2
    have e1 : ¬ one gs w.heap.size := fun c => by have c : w.heap.size = gs := c; have := HS.out.2.2.2.2.2; omega
    have e2 : ¬ one gs (w.heap.size + 1) := fun c => by have c : w.heap.size + 1 = gs := c; have := HS.out.2.2.2.2.2; omega
    refine hK _ _ ⟨hHeld.1.mod mS (fun c => HNE.out c), range_mod hHeld.2.1 mS e1, range_mod hHeld.2.2 mS e2⟩ fun _ => ?_
    have hb4 := hHeld.1.mod mS (fun c => HNE.out c)
    have hm4 := HT.out.2.2.2.2.drew.and_then (mS.mono (S' := two ga gs) (fun _ _ c => .inr c))
    have H4 := Lib.hid (And.intro hb4 (And.intro hS4 hm4))
    clear hK K hHeld mS hS4 hb4 hm4 e1 e2 hr0
    refine wpAnyH_done (by kernel_rfl) ?_ _
    obtain ⟨w4, hw4⟩ : ∃ w4, w4 = World.setCells w3.drew gs (g * 37) (slotL (.full k v)) := ⟨_, rfl⟩
    have H5 := Lib.hid (show Blk w4 ga 136 #[.slice (some ⟨gs, 0, none⟩) l.length l.length, .int .i64 (u : Int), .int .i64 (t : Int)] ∧ Blk w4 gs 133 (rowL (l.set g (.full k v))).flatten.toArray ∧ Mod (two ga gs) w w4 by rw [hw4]; exact H4.out)
    simp only [Act.put, List.toList_toArray]
    rw [← hw4]
    clear hw4 H4
    have c1 := H5.out.1.cell 1
    have f1 := H5.out.1.free 1
    have hwu : wrap64 ((u : Int) + 1) = ((u + 1 : Nat) : Int) := by rw [IntWalk.wrap64_in _ (by have := HS.out.2.2.1; omega)]; omega
    go_wp2_with fail
    go_end0
    refine ⟨rfl, ⟨?_, ?_⟩, ?_⟩
    · rw [List.length_set]
      exact H5.out.1.put 1 _
    · exact H5.out.2.1.far (p := ⟨ga, 1, none⟩) (fun c => HNE.out c.symm) _
    · exact H5.out.2.2.set (p := ⟨ga, 1, none⟩) (fun _ => .inl rfl) _
  · have c3' : w2.cell? ⟨gs, g * 37, none⟩ = some (.int .u8 2) := c3
    obtain ⟨y, hy⟩ : ∃ y : Int, y = ((t + 1 : Nat) : Int) := ⟨_, rfl⟩
    have ca2 : Blk w2 ga 136 #[.slice (some ⟨gs, 0, none⟩) l.length l.length, .int .i64 (u : Int), .int .i64 y] := by rw [hy]; exact H2.out.1.a
    have c2 := ca2.cell 2
    have f2 := ca2.free 2
    have hw2 : wrap64 (y - 1) = (t : Int) := by rw [hy, IntWalk.wrap64_in _ (by have := HS.out.2.2.2.1; omega)]; omega
    have HTT := Lib.hid (show ∀ w3, w3 = w2.setCell ⟨ga, 2, none⟩ (.int .i64 (t : Int)) → Blk w3 ga 136 #[.slice (some ⟨gs, 0, none⟩) l.length l.length, .int .i64 (u : Int), .int .i64 (t : Int)] ∧ (w3.there gs (g * 37) 37 ∧ Blk (World.setCells w3.drew gs (g * 37) (slotL (.full k v))) gs 133 (rowL (l.set g (.full k v))).flatten.toArray) ∧ w3.rangeAt w.heap.size 0 k.L ∧ w3.rangeAt (w.heap.size + 1) 0 v.L ∧ Mod (two ga gs) w w3 from fun w3 hw3 => by
      have m3 : Mod (one ga) w2 w3 := by rw [hw3]; exact (Mod.refl (one ga) w2).set (p := ⟨ga, 2, none⟩) (fun _ => (rfl : one ga ga)) _
      have hs3 : Blk w3 gs 133 (rowL l).flatten.toArray := H2.out.1.s.mod m3 (fun c => HNE.out c.symm)
      have ha3 : Blk w3 ga 136 #[.slice (some ⟨gs, 0, none⟩) l.length l.length, .int .i64 (u : Int), .int .i64 (t : Int)] := by rw [hw3]; exact ca2.put 2 _
      have hA3 : ArrAt w3.drew ga gs l u t := ⟨ha3, hs3⟩
      have e1 : ¬ one ga w.heap.size := fun c => by have c : w.heap.size = ga := c; have := HS.out.2.2.2.2.1; omega
      have e2 : ¬ one ga (w.heap.size + 1) := fun c => by have c : w.heap.size + 1 = ga := c; have := HS.out.2.2.2.2.1; omega
      exact ⟨ha3, ⟨hA3.there HS.out.2.1, hA3.put HS.out.2.1 _⟩, range_mod H2.out.2.1 m3 e1, range_mod H2.out.2.2.1 m3 e2, (H2.out.2.2.2.mono (S' := two ga gs) (fun _ _ c => c.elim)).and_then (m3.mono (S' := two ga gs) (fun _ _ c => .inl c))⟩)
    clear c3 ca2 hy
    go_upto_region 5 with fail
    obtain ⟨w3, hw3⟩ : ∃ w3, w3 = w2.setCell ⟨ga, 2, none⟩ (.int .i64 (t : Int)) := ⟨_, rfl⟩
    rw [← hw3]
    have HT := Lib.hid (HTT.out w3 hw3)
    clear hw3 c0
    have hr0 := HT.out.1.cell 0
    refine wp_region_held_drew (S := fun w' => Blk w' ga 136 #[.slice (some ⟨gs, 0, none⟩) l.length l.length, .int .i64 (u : Int), .int .i64 (t : Int)] ∧ w'.rangeAt w.heap.size 0 k.L ∧ w'.rangeAt (w.heap.size + 1) 0 v.L) (by kernel_rfl) ⟨HT.out.1, HT.out.2.2.1, HT.out.2.2.2.1⟩ (fun hHeld => ?_)
    refine takeD (i := 0) (d := some 37) (v := (.pointer (some ⟨ga, 0, none⟩))) rfl (by kernel_rfl) (by kernel_rfl) (by kernel_rfl) rfl (fun _ _ _ h => h) (Or.inl ⟨by kernel_rfl, fun w9 hw => y_move rfl rfl⟩) hHeld ?_
    simp only [Act.put, List.setIfInBounds_toArray, List.set_cons_zero, List.set_cons_succ]
    refine takeD (i := 1) (d := some 38) (v := (.pointer (some ⟨ga, 0, none⟩))) rfl (by kernel_rfl) (by kernel_rfl) (by kernel_rfl) rfl (fun _ _ _ h => h) (Or.inl ⟨by kernel_rfl, fun w9 hw => y_nil rfl rfl⟩) hHeld ?_
    simp only [Act.put, List.setIfInBounds_toArray, List.set_cons_zero, List.set_cons_succ]
    refine takeD (i := 2) (d := some 39) (v := (.pointer (some ⟨ga, 0, none⟩))) rfl (by kernel_rfl) (by kernel_rfl) (by kernel_rfl) rfl (fun _ _ _ h => h) (Or.inl ⟨by kernel_rfl, fun w9 hw => y_fa (by decide) rfl rfl⟩) hHeld ?_
    simp only [Act.put, List.setIfInBounds_toArray, List.set_cons_zero, List.set_cons_succ]
    refine takeD (i := 3) (d := some 40) (v := (.slice (some ⟨gs, 0, none⟩) l.length l.length)) rfl (by kernel_rfl) (by kernel_rfl) (by kernel_rfl) rfl (fun _ _ _ h => h) (Or.inl ⟨by kernel_rfl, fun w9 hw => y_one rfl (by decide) rfl (hw.1.cell 0) rfl⟩) hHeld ?_
    simp only [Act.put, List.setIfInBounds_toArray, List.set_cons_zero, List.set_cons_succ]
    refine takeD (i := 4) (d := some 41) (v := (.int .i64 (g : Int))) rfl (by kernel_rfl) (by kernel_rfl) (by kernel_rfl) rfl (fun _ _ _ h => h) (Or.inl ⟨by kernel_rfl, fun w9 hw => y_move rfl rfl⟩) hHeld ?_
    simp only [Act.put, List.setIfInBounds_toArray, List.set_cons_zero, List.set_cons_succ]
    refine takeD (i := 5) (d := some 42) (v := (.agg k.L.toArray)) rfl (by kernel_rfl) (by kernel_rfl) (by kernel_rfl) rfl (fun _ _ _ h => h) (Or.inl ⟨by kernel_rfl, fun w9 hw => y_key rfl rfl hw.2.1⟩) hHeld ?_
    simp only [Act.put, List.setIfInBounds_toArray, List.set_cons_zero, List.set_cons_succ]
    refine takeD (i := 6) (d := some 43) (v := (.agg v.L.toArray)) rfl (by kernel_rfl) (by kernel_rfl) (by kernel_rfl) rfl (fun _ _ _ h => h) (Or.inl ⟨by kernel_rfl, fun w9 hw => y_ent rfl rfl hw.2.2⟩) hHeld ?_
    simp only [Act.put, List.setIfInBounds_toArray, List.set_cons_zero, List.set_cons_succ]
    refine takeD (i := 7) (d := some 44) (v := (.agg (slotL (.full k v)).toArray)) rfl (by kernel_rfl) (by kernel_rfl) (by kernel_rfl) rfl (fun _ _ _ h => h) (Or.inl ⟨by kernel_rfl, fun w9 hw => y_full rfl rfl rfl rfl⟩) hHeld ?_
    simp only [Act.put, List.setIfInBounds_toArray, List.set_cons_zero, List.set_cons_succ]
    refine takeD (i := 8) (d := some 45) (v := (.pointer (some ⟨gs, g * 37, none⟩))) rfl (by kernel_rfl) (by kernel_rfl) (by kernel_rfl) rfl (fun _ _ _ h => h) (Or.inl ⟨by kernel_rfl, fun w9 hw => y_ix rfl rfl rfl HS.out.2.1⟩) hHeld ?_
    simp only [Act.put, List.setIfInBounds_toArray, List.set_cons_zero, List.set_cons_succ]
    refine readyD (i := 9) (d := none) rfl (by kernel_rfl) rfl (by kernel_rfl) fun K hK => ?_
    refine wp_store_mid 133 (.tmp 45) (.tmp 44) rfl gs (g * 37) (slotL (.full k v)).toArray rfl rfl (by rw [List.size_toArray, slotL_len]; exact HT.out.2.1.1) (slot_sizeG _) (all_oneCell_toArray (slot_ones _)) ?_
    have mS : Mod (one gs) w3.drew (World.setCells w3.drew gs (g * 37) (slotL (.full k v))) := mod_setCells (S := one gs) (fun _ => rfl) _ _ _ (Mod.refl _ _)
    have hS4 := HT.out.2.1.2
    have e1 : ¬ one gs w.heap.size := fun c => by have c : w.heap.size = gs := c; have := HS.out.2.2.2.2.2; omega
    have e2 : ¬ one gs (w.heap.size + 1) := fun c => by have c : w.heap.size + 1 = gs := c; have := HS.out.2.2.2.2.2; omega
    refine hK _ _ ⟨hHeld.1.mod mS (fun c => HNE.out c), range_mod hHeld.2.1 mS e1, range_mod hHeld.2.2 mS e2⟩ fun _ => ?_
    have hb4 := hHeld.1.mod mS (fun c => HNE.out c)
    have hm4 := HT.out.2.2.2.2.drew.and_then (mS.mono (S' := two ga gs) (fun _ _ c => .inr c))
    have H4 := Lib.hid (And.intro hb4 (And.intro hS4 hm4))
    clear hK K hHeld mS hS4 hb4 hm4 e1 e2 hr0
    refine wpAnyH_done (by kernel_rfl) ?_ _
    obtain ⟨w4, hw4⟩ : ∃ w4, w4 = World.setCells w3.drew gs (g * 37) (slotL (.full k v)) := ⟨_, rfl⟩
    have H5 := Lib.hid (show Blk w4 ga 136 #[.slice (some ⟨gs, 0, none⟩) l.length l.length, .int .i64 (u : Int), .int .i64 (t : Int)] ∧ Blk w4 gs 133 (rowL (l.set g (.full k v))).flatten.toArray ∧ Mod (two ga gs) w w4 by rw [hw4]; exact H4.out)
    simp only [Act.put, List.toList_toArray]
    rw [← hw4]
    clear hw4 H4
    have c1 := H5.out.1.cell 1
    have f1 := H5.out.1.free 1
    have hwu : wrap64 ((u : Int) + 1) = ((u + 1 : Nat) : Int) := by rw [IntWalk.wrap64_in _ (by have := HS.out.2.2.1; omega)]; omega
    go_wp2_with fail
    go_end0
    refine ⟨rfl, ⟨?_, ?_⟩, ?_⟩
    · rw [List.length_set]
      exact H5.out.1.put 1 _
    · exact H5.out.2.1.far (p := ⟨ga, 1, none⟩) (fun c => HNE.out c.symm) _
    · exact H5.out.2.2.set (p := ⟨ga, 1, none⟩) (fun _ => .inl rfl) _
end Go.Proofs.Ytknbehjhaaidoaa.TB

