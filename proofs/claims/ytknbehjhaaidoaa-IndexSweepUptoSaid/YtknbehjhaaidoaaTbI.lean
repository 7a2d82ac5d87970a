/- A table's Del. -/
import Derived.Test.YtknbehjhaaidoaaTbG
import Derived.Test.YtknbehjhaaidoaaTbO
namespace Go.Proofs.Ytknbehjhaaidoaa.TB
open Go.RowKit Mem HD
set_option linter.unusedVariables false
set_option linter.unusedSimpArgs false

/-- The blocks of a table lie below the heap's end. -/
def small (R : Nat → Prop) (w : World) (k : Nat) : Prop := R k ∧ k < w.heap.size
theorem TabM.small {w : World} {g ya ys : Nat} {R : Nat → Prop} {t : Tab Key Ent} {po : Option Addr} (h : TabM w g R t ya ys po) : TabM w g (small R w) t ya ys po := by
  refine ⟨h.b, h.y, ?_, ⟨h.rg, h.b.lt⟩, ⟨h.ry, h.y.a.lt⟩, ⟨h.rs, h.y.s.lt⟩⟩
  have ho := h.o
  cases hto : t.o with
  | none => rw [hto] at ho; exact ho
  | some l =>
    rw [hto] at ho
    obtain ⟨oa, os, h1, h2, h3, h4, h5⟩ := ho
    exact ⟨oa, os, h1, h2, ⟨h3, h2.a.lt⟩, ⟨h4, h2.s.lt⟩, h5⟩
theorem TabM.young {w w' : World} {g ya ys : Nat} {R : Nat → Prop} {t : Tab Key Ent} {po : Option Addr} (h : TabM w g R t ya ys po) (hm : Mod (two ya ys) w w') {y' : List Sl} (ha : ArrAt w' ya ys y' (ents y').length (tombs y')) : TabM w' g R ⟨y', t.o, t.m⟩ ya ys po := by
  refine ⟨h.b.mod hm (fun c => c.elim (h.b.ne h.y.a (by decide)) (h.b.ne h.y.s (by decide))), ha, ?_, h.rg, h.ry, h.rs⟩
  have ho := h.o
  show OldAt w' R ya ys po t.o
  cases hto : t.o with
  | none => rw [hto] at ho; exact ho
  | some l =>
    rw [hto] at ho
    obtain ⟨oa, os, h1, h2, h3, h4, h5, h6⟩ := ho
    exact ⟨oa, os, h1, h2.mod hm (fun c => c.elim h5 (h2.a.ne h.y.s (by decide))) (fun c => c.elim (h2.s.ne h.y.a (by decide)) h6), h3, h4, h5, h6⟩
theorem TabM.elder {w w' : World} {g ya ys oa os : Nat} {R : Nat → Prop} {t : Tab Key Ent} {l l' : List Sl} {u tt : Nat} (h : TabM w g R t ya ys (some ⟨oa, 0, none⟩)) (ho : ArrAt w oa os l u tt) (h1 : R oa) (h2 : R os) (h3 : oa ≠ ya) (h4 : os ≠ ys) (hm : Mod (two oa os) w w') (ha : ArrAt w' oa os l' (ents l').length (tombs l')) :
    TabM w' g R ⟨t.y, some l', t.m⟩ ya ys (some ⟨oa, 0, none⟩) :=
  ⟨h.b.mod hm (fun c => c.elim (h.b.ne ho.a (by decide)) (h.b.ne ho.s (by decide))), h.y.mod hm (fun c => c.elim (fun c => h3 c.symm) (h.y.a.ne ho.s (by decide))) (fun c => c.elim (h.y.s.ne ho.a (by decide)) (fun c => h4 c.symm)), ⟨oa, os, rfl, ha, h1, h2, h3, h4⟩, h.rg, h.ry, h.rs⟩
theorem small_le {R : Nat → Prop} {w : World} : ∀ k, small R w k → R k := fun _ c => c.1
set_option maxRecDepth 100000 in
set_option maxHeartbeats 4000000 in
theorem del_any {w : World} {g : Nat} {R : Nat → Prop} {t : Tab Key Ent} (ht : TabAt w g R t) (hw : WF hash 1 t) (k : Key) :
    Calls Try.prog 59 #[.pointer (some ⟨g, 0, none⟩), .agg k.L.toArray] w fun e w' => (∃ r, e = .returned (gotV r) ∧ Found t.L k r) ∧ (∃ t', WF hash 1 t' ∧ t'.L.Perm (less t.L k) ∧ TabAt w' g R t') ∧ Mod R w w' := by
  obtain ⟨ya, ys, po, ht⟩ := ht
  obtain ⟨f1, f2, f3, f4⟩ := w3_facts w k
  have ht1 := ht.small.mod f1 (fun _ _ c => c)
  have HA := Lib.hid (And.intro ht1 (And.intro f1 (And.intro f2 (And.intro f3 f4))))
  have HW := Lib.hid hw
  clear ht hw f1 f2 f3 f4 ht1
  go_enter Try.func59, Try.ntmps59
  go_upto_region 4 with (first
    | (go_at_call 85; refine (made_any ⟨ya, ys, po, HA.out.1⟩).mono ?_; rintro e w' ⟨rfl, rfl⟩))
  obtain ⟨w3, hw3⟩ : ∃ w3, w3 = W3 w k := ⟨_, rfl⟩
  rw [← hw3] at HA ⊢
  clear hw3
  obtain ⟨h0, hh0⟩ : ∃ h0, h0 = w.heap.size := ⟨_, rfl⟩
  have HH := Lib.hid hh0
  obtain ⟨R0, hR0⟩ : ∃ R0, R0 = small R w := ⟨_, rfl⟩
  have HR0 := Lib.hid hR0
  rw [← hh0, ← hR0] at HA
  rw [← hh0]
  clear hh0 hR0
  go_upto_region 5 with (first
    | (go_at_call 86; refine (step_any HA.out.1 HW.out).mono ?_; rintro e w4 ⟨rfl, ⟨po1, ht4⟩, hm4⟩; have H4 := Lib.hid (And.intro ht4 hm4); clear ht4 hm4))
  have hnb : ∀ x, h0 ≤ x → ¬ R0 x := fun x hx c => by rw [HR0.out] at c; have := c.2; have := HH.out; omega
  have HS := Lib.hid (step_wf HW.out)
  obtain ⟨t1, ht1⟩ : ∃ t1, t1 = step hash t := ⟨_, rfl⟩
  rw [← ht1] at H4 HS
  have HB := Lib.hid (show w4.rangeAt h0 0 k.L ∧ Blk w4 (h0 + 1) 56 e0.L.toArray ∧ Blk w4 (h0 + 1 + 1) 56 e0.L.toArray from ⟨range_mod HA.out.2.2.1 H4.out.2 (hnb _ (by omega)), HA.out.2.2.2.1.mod H4.out.2 (hnb _ (by omega)), HA.out.2.2.2.2.mod H4.out.2 (hnb _ (by omega))⟩)
  have HNB := Lib.hid hnb
  have HMW := Lib.hid (show Mod R0 w w4 from (HA.out.2.1.mono (fun _ _ c => c.elim)).and_then H4.out.2)
  clear ht1 hnb
  refine wp_region_held_drew (S := fun w' => TabM w' g R0 t1 ya ys po1 ∧ w'.rangeAt h0 0 k.L ∧ Blk w' (h0 + 1) 56 e0.L.toArray ∧ Blk w' (h0 + 1 + 1) 56 e0.L.toArray) (by kernel_rfl) ⟨H4.out.1.drew, HB.out⟩ (fun hHeld => ?_)
  refine takeD (i := 0) (d := some 17) (v := (.pointer (some ⟨g, 0, none⟩))) rfl (by kernel_rfl) (by kernel_rfl) (by kernel_rfl) rfl (fun _ _ _ h => h) (Or.inl ⟨by kernel_rfl, fun w9 hw => y_move rfl rfl⟩) hHeld ?_
  simp only [Act.put, List.setIfInBounds_toArray, List.set_cons_zero, List.set_cons_succ]
  refine takeD (i := 1) (d := some 18) (v := (.pointer (some ⟨g, 0, none⟩))) rfl (by kernel_rfl) (by kernel_rfl) (by kernel_rfl) rfl (fun _ _ _ h => h) (Or.inl ⟨by kernel_rfl, fun w9 hw => y_move rfl rfl⟩) hHeld ?_
  simp only [Act.put, List.setIfInBounds_toArray, List.set_cons_zero, List.set_cons_succ]
  refine takeD (i := 2) (d := some 19) (v := (.pointer (some ⟨g, 0, none⟩))) rfl (by kernel_rfl) (by kernel_rfl) (by kernel_rfl) rfl (fun _ _ _ h => h) (Or.inl ⟨by kernel_rfl, fun w9 hw => y_nil rfl rfl⟩) hHeld ?_
  simp only [Act.put, List.setIfInBounds_toArray, List.set_cons_zero, List.set_cons_succ]
  refine takeD (i := 3) (d := some 20) (v := (.pointer (some ⟨g, 0, none⟩))) rfl (by kernel_rfl) (by kernel_rfl) (by kernel_rfl) rfl (fun _ _ _ h => h) (Or.inl ⟨by kernel_rfl, fun w9 hw => y_ft (by decide) rfl rfl⟩) hHeld ?_
  simp only [Act.put, List.setIfInBounds_toArray, List.set_cons_zero, List.set_cons_succ]
  refine takeD (i := 4) (d := some 21) (v := (hashV)) rfl (by kernel_rfl) (by kernel_rfl) (by kernel_rfl) rfl (fun _ _ _ h => h) (Or.inl ⟨by kernel_rfl, fun w9 hw => y_one rfl (by decide) rfl (hw.1.b.cell 0) rfl⟩) hHeld ?_
  simp only [Act.put, List.setIfInBounds_toArray, List.set_cons_zero, List.set_cons_succ]
  refine takeD (i := 5) (d := some 22) (v := (.agg k.L.toArray)) rfl (by kernel_rfl) (by kernel_rfl) (by kernel_rfl) rfl (fun _ _ _ h => h) (Or.inl ⟨by kernel_rfl, fun w9 hw => y_key rfl rfl hw.2.1⟩) hHeld ?_
  simp only [Act.put, List.setIfInBounds_toArray, List.set_cons_zero, List.set_cons_succ]
  refine takeD (i := 7) (d := some 24) (v := (.agg k.L.toArray)) rfl (by kernel_rfl) (by kernel_rfl) (by kernel_rfl) rfl (fun _ _ _ h => h) (Or.inl ⟨by kernel_rfl, fun w9 hw => y_key rfl rfl hw.2.1⟩) hHeld ?_
  simp only [Act.put, List.setIfInBounds_toArray, List.set_cons_zero, List.set_cons_succ]
  refine readyD (i := 6) (d := some 23) rfl (by kernel_rfl) rfl (by kernel_rfl) fun K hK => ?_
  refine op_v1 (fun _ _ => rfl) rfl rfl rfl (hash_any k _) ?_
  rintro e w4' ⟨rfl, hm4⟩
  have HM4 := Lib.hid hm4
  refine ⟨_, rfl, hK _ _ ⟨hHeld.1.mod hm4 (fun _ _ c => c), range_mod hHeld.2.1 hm4 (fun c => c), hHeld.2.2.1.mod hm4 (fun c => c), hHeld.2.2.2.mod hm4 (fun c => c)⟩ fun hHeld9 => ?_⟩
  clear hK K hHeld
  have hHeld := hHeld9
  clear hHeld9
  simp only [Act.put, List.setIfInBounds_toArray, List.set_cons_zero, List.set_cons_succ]
  refine readyD (i := 8) (d := some 25) rfl (by kernel_rfl) rfl (by kernel_rfl) fun K hK => ?_
  refine op_c3 (fun _ _ => rfl) rfl rfl rfl rfl (seek_wf hHeld.1 HS.out.2.1 k) ?_
  rintro e w5 ⟨hm5, p, at_, d, rfl, hl⟩
  have HL := Lib.hid hl
  have HM5 := Lib.hid (show Mod no w4 w5 from ((Mod.refl no _).drew.and_then HM4.out).and_then hm5)
  refine ⟨_, rfl, hK _ _ ⟨hHeld.1.mod hm5 (fun _ _ c => c), range_mod hHeld.2.1 hm5 (fun c => c), hHeld.2.2.1.mod hm5 (fun c => c), hHeld.2.2.2.mod hm5 (fun c => c)⟩ fun hHeld9 => ?_⟩
  clear hK K hHeld
  have hHeld := hHeld9
  clear hHeld9
  simp only [Act.put, List.setIfInBounds_toArray, List.set_cons_zero, List.set_cons_succ]
  refine takeD (i := 9) (d := some 16) (v := (.tuple #[.pointer p, .int .i64 at_, .int .i64 d])) rfl (by kernel_rfl) (by kernel_rfl) (by kernel_rfl) rfl (fun _ _ _ h => h) (Or.inl ⟨by kernel_rfl, fun w9 hw => y_move rfl rfl⟩) hHeld ?_
  simp only [Act.put, List.setIfInBounds_toArray, List.set_cons_zero, List.set_cons_succ]
  refine takeD (i := 10) (d := some 26) (v := (.pointer p)) rfl (by kernel_rfl) (by kernel_rfl) (by kernel_rfl) rfl (fun _ _ _ h => h) (Or.inl ⟨by kernel_rfl, fun w9 hw => y_ext rfl rfl rfl⟩) hHeld ?_
  simp only [Act.put, List.setIfInBounds_toArray, List.set_cons_zero, List.set_cons_succ]
  refine takeD (i := 11) (d := some 27) (v := (.int .i64 at_)) rfl (by kernel_rfl) (by kernel_rfl) (by kernel_rfl) rfl (fun _ _ _ h => h) (Or.inl ⟨by kernel_rfl, fun w9 hw => y_ext rfl rfl rfl⟩) hHeld ?_
  simp only [Act.put, List.setIfInBounds_toArray, List.set_cons_zero, List.set_cons_succ]
  refine takeD (i := 12) (d := some 28) (v := (.int .i64 d)) rfl (by kernel_rfl) (by kernel_rfl) (by kernel_rfl) rfl (fun _ _ _ h => h) (Or.inl ⟨by kernel_rfl, fun w9 hw => y_ext rfl rfl rfl⟩) hHeld ?_
  simp only [Act.put, List.setIfInBounds_toArray, List.set_cons_zero, List.set_cons_succ]
  refine takeD (i := 13) (d := some 7) (v := (.pointer p)) rfl (by kernel_rfl) (by kernel_rfl) (by kernel_rfl) rfl (fun _ _ _ h => h) (Or.inl ⟨by kernel_rfl, fun w9 hw => y_assign rfl rfl⟩) hHeld ?_
  simp only [Act.put, List.setIfInBounds_toArray, List.set_cons_zero, List.set_cons_succ]
  refine takeD (i := 14) (d := some 8) (v := (.int .i64 at_)) rfl (by kernel_rfl) (by kernel_rfl) (by kernel_rfl) rfl (fun _ _ _ h => h) (Or.inl ⟨by kernel_rfl, fun w9 hw => y_assign rfl rfl⟩) hHeld ?_
  simp only [Act.put, List.setIfInBounds_toArray, List.set_cons_zero, List.set_cons_succ]
  refine takeD (i := 15) (d := some 9) (v := (.int .i64 d)) rfl (by kernel_rfl) (by kernel_rfl) (by kernel_rfl) rfl (fun _ _ _ h => h) (Or.inl ⟨by kernel_rfl, fun w9 hw => y_assign rfl rfl⟩) hHeld ?_
  simp only [Act.put, List.setIfInBounds_toArray, List.set_cons_zero, List.set_cons_succ]
  refine wpAnyH_done (by kernel_rfl) ?_ _
  have H5 := Lib.hid hHeld
  clear hHeld
  cases HL.out with
  | young n v h1 h2 h3 =>
    subst h1 h2
    have hul := ents_le t1.y
    have hyb := HS.out.2.1.py.bd
    have hbl := ents_len_set (y := .tomb) h3
    have htl := tombs_set t1.y n (.full k v) .tomb h3
    simp only [Slot.ent, Option.toList_some, Option.toList_none, List.length_cons, List.length_nil] at hbl
    simp only [Slot.isTomb, Bool.toNat_false, Bool.toNat_true] at htl
    have HY := Lib.hid (And.intro h3 (And.intro (show (ents t1.y).length = (ents (t1.y.set n .tomb)).length + 1 ∧ tombs (t1.y.set n .tomb) = tombs t1.y + 1 ∧ (ents t1.y).length ≤ 1099511627776 ∧ tombs t1.y ≤ 1099511627776 from ⟨by omega, by omega, by omega, by omega⟩) (show Found t.L k (some v) from (Found.yes HS.out.2.1.nk (by unfold Tab.L; exact List.mem_append_right _ (mem_ents.2 ⟨n, h3⟩))).perm HS.out.1)))
    clear hul hyb hbl htl h3 HL
    have HNB1 := Lib.hid (show ¬ two ya ys (h0 + 1) from fun c => by rcases c with c | c; exact HNB.out _ (by omega) (c ▸ H5.out.1.ry); exact HNB.out _ (by omega) (c ▸ H5.out.1.rs))
    go_wp2_with (first
      | (go_at_call 88; refine (bury_any (u := (ents (t1.y.set n .tomb)).length) (t := tombs t1.y) (by rw [← HY.out.2.1.1]; exact H5.out.1.y) HY.out.1 (by have := HY.out.2.1.1; have := HY.out.2.1.2.2.1; omega) HY.out.2.1.2.2.2).mono ?_; rintro e w6 ⟨rfl, ha6, hm6⟩; have H6 := Lib.hid (And.intro ha6 (And.intro hm6 (H5.out.2.2.1.mod hm6 HNB1.out))); clear ha6 hm6)
      | (refine wpList_store_mid rfl 56 (.tmp 4) (.tmp 34) (by rfl) (h0 + 1) 0 v.L.toArray (by rfl) (by rfl) (by exact blk_there H6.out.2.2 0 4 (by decide)) (ent_sizeG _) (all_oneCell_toArray (ent_ones _)) ?_
         obtain ⟨w7, hw7⟩ : ∃ w7, w7 = World.setCells w6 (h0 + 1) 0 v.L.toArray.toList := ⟨_, rfl⟩
         rw [← hw7]
         have HW7 := Lib.hid hw7
         clear hw7))
    have r7 : w7.rangeAt (h0 + 1) 0 v.L := by rw [HW7.out]; exact World.rangeAt_setCells_same _ _ _ _ (blk_there H6.out.2.2 0 4 (by decide))
    have m7 : Mod R0 w w7 := by rw [HW7.out]; exact mod_setCells (fun c => by have := HH.out; omega) _ _ _ ((HMW.out.and_then (HM5.out.mono (fun _ _ c => c.elim))).and_then (H6.out.2.1.mono (fun x _ c => c.elim (fun c => c ▸ H5.out.1.ry) (fun c => c ▸ H5.out.1.rs))))
    have m67 : Mod (one (h0 + 1)) w6 w7 := by rw [HW7.out]; exact mod_setCells (S := one (h0 + 1)) (fun _ => rfl) _ _ _ (Mod.refl _ _)
    have hA6 := H6.out.1
    rw [← HY.out.2.1.2.1] at hA6
    have ht6 := H5.out.1.young H6.out.2.1 hA6
    have ht7 := ht6.mod m67 (fun x hx c => by have c : x = h0 + 1 := c; rw [c] at hx; exact HNB.out _ (by omega) hx)
    have hle : ∀ x, R0 x → R x := fun x hx => by rw [HR0.out] at hx; exact hx.1
    have hwf := HS.out.2.1.buryY HY.out.1
    exact bodyPost_ret (v := gotV (some v)) (ret_two (p := 4) (u := 5) (ty := 56) rfl _ _ (h0 + 1) v.L _ rfl rfl r7 Try.underlying56 rfl (ent_sizeG _)) rfl ⟨⟨_, rfl, HY.out.2.2⟩, ⟨_, hwf.1, hwf.2.trans (less_perm HS.out.1 k), ya, ys, _, ht7.mono hle⟩, m7.mono (fun x _ c => hle x c)⟩
  | old l oa os n v h0' h1 h2 h3 h4 h5 h6 h7 h8 h9 h10 =>
    subst h2 h3 h1
    have hul := ents_le l
    have hyb := (HS.out.2.1.old l h0').1.bd
    have hbl := ents_len_set (y := .tomb) h4
    have htl := tombs_set l n (.full k v) .tomb h4
    simp only [Slot.ent, Option.toList_some, Option.toList_none, List.length_cons, List.length_nil] at hbl
    simp only [Slot.isTomb, Bool.toNat_false, Bool.toNat_true] at htl
    have HY := Lib.hid (And.intro h4 (And.intro (show (ents l).length = (ents (l.set n .tomb)).length + 1 ∧ tombs (l.set n .tomb) = tombs l + 1 ∧ (ents l).length ≤ 1099511627776 ∧ tombs l ≤ 1099511627776 from ⟨by omega, by omega, by omega, by omega⟩) (show Found t.L k (some v) from (Found.yes HS.out.2.1.nk (by unfold Tab.L; rw [h0']; exact List.mem_append_left _ (mem_ents.2 ⟨n, h4⟩))).perm HS.out.1)))
    have HO := Lib.hid (And.intro h0' (And.intro h6 (And.intro h7 (And.intro h8 (And.intro h9 h10)))))
    clear hul hyb hbl htl h4 h0' h5 h6 h7 h8 h9 h10 HL
    have HNB1 := Lib.hid (show ¬ two oa os (h0 + 1) from fun c => by rcases c with c | c; exact HNB.out _ (by omega) (c ▸ HO.out.2.2.1); exact HNB.out _ (by omega) (c ▸ HO.out.2.2.2.1))
    go_wp2_with (first
      | (go_at_call 88; refine (bury_any (u := (ents (l.set n .tomb)).length) (t := tombs l) (by rw [← HY.out.2.1.1]; exact HO.out.2.1) HY.out.1 (by have := HY.out.2.1.1; have := HY.out.2.1.2.2.1; omega) HY.out.2.1.2.2.2).mono ?_; rintro e w6 ⟨rfl, ha6, hm6⟩; have H6 := Lib.hid (And.intro ha6 (And.intro hm6 (H5.out.2.2.1.mod hm6 HNB1.out))); clear ha6 hm6)
      | (refine wpList_store_mid rfl 56 (.tmp 4) (.tmp 34) (by rfl) (h0 + 1) 0 v.L.toArray (by rfl) (by rfl) (by exact blk_there H6.out.2.2 0 4 (by decide)) (ent_sizeG _) (all_oneCell_toArray (ent_ones _)) ?_
         obtain ⟨w7, hw7⟩ : ∃ w7, w7 = World.setCells w6 (h0 + 1) 0 v.L.toArray.toList := ⟨_, rfl⟩
         rw [← hw7]
         have HW7 := Lib.hid hw7
         clear hw7))
    have r7 : w7.rangeAt (h0 + 1) 0 v.L := by rw [HW7.out]; exact World.rangeAt_setCells_same _ _ _ _ (blk_there H6.out.2.2 0 4 (by decide))
    have m7 : Mod R0 w w7 := by rw [HW7.out]; exact mod_setCells (fun c => by have := HH.out; omega) _ _ _ ((HMW.out.and_then (HM5.out.mono (fun _ _ c => c.elim))).and_then (H6.out.2.1.mono (fun x _ c => c.elim (fun c => c ▸ HO.out.2.2.1) (fun c => c ▸ HO.out.2.2.2.1))))
    have m67 : Mod (one (h0 + 1)) w6 w7 := by rw [HW7.out]; exact mod_setCells (S := one (h0 + 1)) (fun _ => rfl) _ _ _ (Mod.refl _ _)
    have hA6 := H6.out.1
    rw [← HY.out.2.1.2.1] at hA6
    have ht6 := H5.out.1.elder HO.out.2.1 HO.out.2.2.1 HO.out.2.2.2.1 HO.out.2.2.2.2.1 HO.out.2.2.2.2.2 H6.out.2.1 hA6
    have ht7 := ht6.mod m67 (fun x hx c => by have c : x = h0 + 1 := c; rw [c] at hx; exact HNB.out _ (by omega) hx)
    have hle : ∀ x, R0 x → R x := fun x hx => by rw [HR0.out] at hx; exact hx.1
    have hwf := (show WF hash 1 (⟨t1.y, some (l.set n .tomb), t1.m⟩ : Tab Key Ent) ∧ _ from ⟨(HS.out.2.1.buryO HO.out.1 HY.out.1).1.less_s (by decide), (HS.out.2.1.buryO HO.out.1 HY.out.1).2⟩)
    exact bodyPost_ret (v := gotV (some v)) (ret_two (p := 4) (u := 5) (ty := 56) rfl _ _ (h0 + 1) v.L _ rfl rfl r7 Try.underlying56 rfl (ent_sizeG _)) rfl ⟨⟨_, rfl, HY.out.2.2⟩, ⟨_, hwf.1, hwf.2.trans (less_perm HS.out.1 k), ya, ys, _, ht7.mono hle⟩, m7.mono (fun x _ c => hle x c)⟩
  | no h1 h2 =>
    subst h1
    have HN := Lib.hid h2
    clear h2 HL
    go_wp2_with (first
      | (refine wpList_load_mid rfl 56 (.tmp 6) (by rfl) (h0 + 1 + 1) 0 (by rfl) e0.L _ (by exact blk_range H5.out.2.2.2) Try.underlying56 rfl (ent_sizeG _) ?_)
      | (refine wpList_store_mid rfl 56 (.tmp 4) (.tmp 31) (by rfl) (h0 + 1) 0 e0.L.toArray (by rfl) (by rfl) (by exact blk_there H5.out.2.2.1 0 4 (by decide)) (ent_sizeG _) (all_oneCell_toArray (ent_ones _)) ?_
         obtain ⟨w7, hw7⟩ : ∃ w7, w7 = World.setCells w5 (h0 + 1) 0 e0.L.toArray.toList := ⟨_, rfl⟩
         rw [← hw7]
         have HW7 := Lib.hid hw7
         clear hw7))
    have r7 : w7.rangeAt (h0 + 1) 0 e0.L := by rw [HW7.out]; exact World.rangeAt_setCells_same _ _ _ _ (blk_there H5.out.2.2.1 0 4 (by decide))
    have m7 : Mod R0 w w7 := by rw [HW7.out]; exact mod_setCells (fun c => by have := HH.out; omega) _ _ _ (HMW.out.and_then (HM5.out.mono (fun _ _ c => c.elim)))
    have m57 : Mod (one (h0 + 1)) w5 w7 := by rw [HW7.out]; exact mod_setCells (S := one (h0 + 1)) (fun _ => rfl) _ _ _ (Mod.refl _ _)
    have ht7 := H5.out.1.mod m57 (fun x hx c => by have c : x = h0 + 1 := c; rw [c] at hx; exact HNB.out _ (by omega) hx)
    have hle : ∀ x, R0 x → R x := fun x hx => by rw [HR0.out] at hx; exact hx.1
    refine bodyPost_ret (v := gotV none) (ret_two (p := 4) (u := 5) (ty := 56) rfl _ _ (h0 + 1) e0.L _ rfl rfl r7 Try.underlying56 rfl (ent_sizeG _)) rfl ⟨⟨_, rfl, (Found.no HN.out).perm HS.out.1⟩, ⟨t1, HS.out.2.1, ?_, ya, ys, po1, ht7.mono hle⟩, m7.mono (fun x _ c => hle x c)⟩
    rw [less_no (fun v' hv' => HN.out v' (HS.out.1.mem_iff.2 hv'))]
    exact HS.out.1
end Go.Proofs.Ytknbehjhaaidoaa.TB

