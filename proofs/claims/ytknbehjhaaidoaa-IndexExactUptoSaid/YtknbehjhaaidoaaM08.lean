/- IndexExact: the texts TbG TbI of this seat, one behind the other. -/
import Derived.Test.YtknbehjhaaidoaaM07
import Derived.Test.YtknbehjhaaidoaaM04
/- A table's step: eight of the elder slots are gone through. -/
namespace Go.Proofs.Ytknbehjhaaidoaa.TB
open Go.RowKit Mem HD
set_option linter.unusedVariables false
set_option linter.unusedSimpArgs false

theorem y_allocS {a : Act} {o : Oper} {w : World} (ho : o.op = .alloc 133) : (execOp a.eval o).run Try.prog w = .ok (.value (.pointer (some ⟨w.heap.size, 0, none⟩))) (w.alloc (.cells (slotL .empty).toArray 133)) := by
  unfold execOp
  simp only [ho]
  kernel_rfl
theorem range_key {w : World} {b : Nat} {k : Key} {v : Ent} (h : w.rangeAt b 0 (slotL (.full k v))) : w.rangeAt b (0 + 1) k.L := fun j u hu => by
  have hk := (List.getElem?_eq_some_iff.1 hu).1
  have h1 := h (j + 1) u (by
    unfold slotL
    rw [List.getElem?_cons_succ]
    show (k.L ++ v.L)[j]? = some u
    rw [List.getElem?_append_left hk]
    exact hu)
  rw [show 0 + 1 + j = 0 + (j + 1) by omega]
  exact h1
theorem range_ent {w : World} {b : Nat} {k : Key} {v : Ent} (h : w.rangeAt b 0 (slotL (.full k v))) : w.rangeAt b (0 + 33) v.L := fun j u hu => by
  have h1 := h (j + 33) u (by
    unfold slotL
    rw [show j + 33 = (j + 32) + 1 by omega, List.getElem?_cons_succ, List.getElem?_append_right (by show k.L.length ≤ j + 32; rw [Key.len]; omega)]
    show v.L[j + 32 - k.L.length]? = some u
    rw [Key.len, show j + 32 - 32 = j by omega]
    exact hu)
  rw [show 0 + 33 + j = 0 + (j + 33) by omega]
  exact h1
/-- The table between two of its elder slots. -/
structure StM (w0 w : World) (R : Nat → Prop) (g ya ys oa os : Nat) (m : Nat) (y o : List Sl) : Prop where
  b : Blk w g 127 #[hashV, .pointer (some ⟨ya, 0, none⟩), .pointer (some ⟨oa, 0, none⟩), .int .i64 (m : Int)]
  y : ArrAt w ya ys y (ents y).length (tombs y)
  o : ArrAt w oa os o (ents o).length (tombs o)
  m : Mod R w0 w
theorem StM.mod {S : Nat → Prop} {w0 w w' : World} {R : Nat → Prop} {g ya ys oa os m : Nat} {y o : List Sl} (h : StM w0 w R g ya ys oa os m y o) (hm : Mod S w w') (h1 : ¬ S g) (h2 : ¬ S ya) (h3 : ¬ S ys) (h4 : ¬ S oa) (h5 : ¬ S os) (h6 : ∀ k, S k → R k) : StM w0 w' R g ya ys oa os m y o :=
  ⟨h.b.mod hm h1, h.y.mod hm h2 h3, h.o.mod hm h4 h5, h.m.and_then (hm.mono (fun k _ c => h6 k c))⟩
theorem StM.no {w0 w w' : World} {R : Nat → Prop} {g ya ys oa os m : Nat} {y o : List Sl} (h : StM w0 w R g ya ys oa os m y o) (hm : Mod no w w') : StM w0 w' R g ya ys oa os m y o := h.mod hm (fun c => c) (fun c => c) (fun c => c) (fun c => c) (fun c => c) (fun _ c => c.elim)
def SI (w0 : World) (R : Nat → Prop) (g ya ys oa os : Nat) (t : Tab Key Ent) (l : List Sl) (v8 : Value) (wr : World) : Prop :=
  ∃ j : Nat, j ≤ 8 ∧ v8 = .int .i64 (j : Int) ∧ StM w0 wr R g ya ys oa os (t.m + j) (moved hash t.y l t.m j).1 (moved hash t.y l t.m j).2
set_option maxRecDepth 100000 in
set_option maxHeartbeats 4000000 in
theorem step_any {w : World} {g ya ys : Nat} {R : Nat → Prop} {t : Tab Key Ent} {po : Option Addr} (ht : TabM w g R t ya ys po) (hw : WF hash 1 t) :
    Calls Try.prog 86 #[.pointer (some ⟨g, 0, none⟩)] w fun e w' => e = .returned (.tuple #[]) ∧ (∃ po', TabM w' g R (step hash t) ya ys po') ∧ Mod R w w' := by
  cases hto : t.o with
  | none =>
    have hpo := ht.o
    rw [hto] at hpo
    have hpo : po = none := hpo
    subst hpo
    have hst : step hash t = t := by unfold step; rw [hto]
    rw [hst]
    have c2 := ht.b.cell 2
    have HT := Lib.hid ht
    clear ht hw hto hst
    go_enter Try.func86, Try.ntmps86
    go_wp2_with fail
    exact bodyPost_ret (v := .tuple #[]) (results_none rfl _ _ _) rfl ⟨rfl, ⟨_, HT.out⟩, Mod.refl _ _⟩
  | some l =>
    have hpo := ht.o
    rw [hto] at hpo
    obtain ⟨oa, os, rfl, ho, hro, hrs, hna, hns⟩ := hpo
    obtain ⟨hmid, hnk, hcap, hm8⟩ := hw.mid hto
    obtain ⟨hpl, hokl, hml, _, _⟩ := hw.old l hto
    have hpb := hpl.bd
    have hyb := hw.py.bd
    have H0 := Lib.hid (show StM w w R g ya ys oa os (t.m + 0) t.y l from ⟨ht.b, ht.y, ho, Mod.refl R w⟩)
    have HR := Lib.hid (show R g ∧ R ya ∧ R ys ∧ R oa ∧ R os ∧ oa ≠ ya ∧ os ≠ ys ∧ g ≠ ya ∧ g ≠ ys ∧ g ≠ oa ∧ g ≠ os ∧ ya ≠ ys ∧ ya ≠ os ∧ oa ≠ ys ∧ oa ≠ os from
      ⟨ht.rg, ht.ry, ht.rs, hro, hrs, hna, hns, ht.b.ne ht.y.a (by decide), ht.b.ne ht.y.s (by decide), ht.b.ne ho.a (by decide), ht.b.ne ho.s (by decide), ht.y.ne, ht.y.a.ne ho.s (by decide), ho.a.ne ht.y.s (by decide), ho.ne⟩)
    have HM := Lib.hid (And.intro hmid (And.intro hnk (And.intro hcap (And.intro hm8 (show l.length ≤ 1099511627776 ∧ t.y.length ≤ 1099511627776 ∧ Pow t.y.length from ⟨hpb.2.1, hyb.2.1, hw.py⟩)))))
    have HST := Lib.hid (show step hash t = if l.length ≤ t.m + 8 then ⟨(moved hash t.y l t.m 8).1, none, 0⟩ else ⟨(moved hash t.y l t.m 8).1, some (moved hash t.y l t.m 8).2, t.m + 8⟩ by unfold step; rw [hto])
    have c2 := ht.b.cell 2
    clear ht hw hto ho hro hrs hna hns hmid hnk hcap hm8 hpl hokl hml hpb hyb
    go_enter Try.func86, Try.ntmps86
    go_wp2_with fail
    clear c2
    go_loopw [8] (SI w R g ya ys oa os t l) (fun v _ => 8 - (intOf v).toNat)
    case atStart => exact ⟨0, by omega, rfl, H0.out⟩
    case round =>
      obtain ⟨j, hj, rfl, hs⟩ := hrel
      by_cases hlt : j < 8
      · obtain ⟨hk, hkl⟩ := HM.out.1.many HM.out.2.1 HM.out.2.2.1 j (by have := HM.out.2.2.2.1; omega)
        have hst1 : moved hash t.y l t.m (j + 1) = step1 hash (moved hash t.y l t.m j) (t.m + j) := rfl
        obtain ⟨p, hp⟩ : ∃ p, p = moved hash t.y l t.m j := ⟨_, rfl⟩
        rw [← hp] at hk hkl hst1 hs
        obtain ⟨y, o⟩ := p
        dsimp only at hk hkl hs
        have hmo : t.m + j < o.length := by have := HM.out.2.2.2.1; omega
        obtain ⟨s, hsl⟩ : ∃ s, o[t.m + j]? = some s := ⟨_, List.getElem?_eq_getElem hmo⟩
        have g1 : (j : Int) < 8 := by omega
        have HS := Lib.hid hs
        have HX := Lib.hid (And.intro hlt (And.intro hmo (And.intro hsl (And.intro hst1 (And.intro hk hkl)))))
        have HMB := Lib.hid (show t.m + j ≤ 1099511627776 by have := HM.out.2.2.2.2.1; omega)
        obtain ⟨mj, hmj⟩ : ∃ mj, mj = t.m + j := ⟨_, rfl⟩
        rw [← hmj] at HS HX HMB
        have HMJ := Lib.hid hmj
        clear hp hk hkl hst1 hs hmo hsl hlt hj hmj
        go_upto_region 3 with fail
        refine wp_region_held_drew (S := fun w' => StM w w' R g ya ys oa os mj y o) (by kernel_rfl) (HS.out.no (Mod.refl no wr).drew) (fun hHeld => ?_)
        refine takeD (i := 0) (d := some 10) (v := (.pointer (some ⟨g, 0, none⟩))) rfl (by kernel_rfl) (by kernel_rfl) (by kernel_rfl) rfl (fun _ _ _ h => h) (Or.inl ⟨by kernel_rfl, fun w9 hw => y_move rfl rfl⟩) hHeld ?_
        simp only [Act.put, List.setIfInBounds_toArray, List.set_cons_zero, List.set_cons_succ]
        refine takeD (i := 1) (d := some 11) (v := (.pointer (some ⟨g, 0, none⟩))) rfl (by kernel_rfl) (by kernel_rfl) (by kernel_rfl) rfl (fun _ _ _ h => h) (Or.inl ⟨by kernel_rfl, fun w9 hw => y_nil rfl rfl⟩) hHeld ?_
        simp only [Act.put, List.setIfInBounds_toArray, List.set_cons_zero, List.set_cons_succ]
        refine takeD (i := 2) (d := some 12) (v := (.pointer (some ⟨g, 2, none⟩))) rfl (by kernel_rfl) (by kernel_rfl) (by kernel_rfl) rfl (fun _ _ _ h => h) (Or.inl ⟨by kernel_rfl, fun w9 hw => y_ft (by decide) rfl rfl⟩) hHeld ?_
        simp only [Act.put, List.setIfInBounds_toArray, List.set_cons_zero, List.set_cons_succ]
        refine takeD (i := 3) (d := some 13) (v := (.pointer (some ⟨oa, 0, none⟩))) rfl (by kernel_rfl) (by kernel_rfl) (by kernel_rfl) rfl (fun _ _ _ h => h) (Or.inl ⟨by kernel_rfl, fun w9 hw => y_one rfl (by decide) rfl (hw.b.cell 2) rfl⟩) hHeld ?_
        simp only [Act.put, List.setIfInBounds_toArray, List.set_cons_zero, List.set_cons_succ]
        refine takeD (i := 4) (d := some 14) (v := (.pointer (some ⟨oa, 0, none⟩))) rfl (by kernel_rfl) (by kernel_rfl) (by kernel_rfl) rfl (fun _ _ _ h => h) (Or.inl ⟨by kernel_rfl, fun w9 hw => y_nil rfl rfl⟩) hHeld ?_
        simp only [Act.put, List.setIfInBounds_toArray, List.set_cons_zero, List.set_cons_succ]
        refine takeD (i := 5) (d := some 15) (v := (.pointer (some ⟨oa, 0, none⟩))) rfl (by kernel_rfl) (by kernel_rfl) (by kernel_rfl) rfl (fun _ _ _ h => h) (Or.inl ⟨by kernel_rfl, fun w9 hw => y_fa (by decide) rfl rfl⟩) hHeld ?_
        simp only [Act.put, List.setIfInBounds_toArray, List.set_cons_zero, List.set_cons_succ]
        refine takeD (i := 6) (d := some 16) (v := (.slice (some ⟨os, 0, none⟩) o.length o.length)) rfl (by kernel_rfl) (by kernel_rfl) (by kernel_rfl) rfl (fun _ _ _ h => h) (Or.inl ⟨by kernel_rfl, fun w9 hw => y_one rfl (by decide) rfl (hw.o.a.cell 0) rfl⟩) hHeld ?_
        simp only [Act.put, List.setIfInBounds_toArray, List.set_cons_zero, List.set_cons_succ]
        refine takeD (i := 7) (d := some 17) (v := (.pointer (some ⟨g, 0, none⟩))) rfl (by kernel_rfl) (by kernel_rfl) (by kernel_rfl) rfl (fun _ _ _ h => h) (Or.inl ⟨by kernel_rfl, fun w9 hw => y_move rfl rfl⟩) hHeld ?_
        simp only [Act.put, List.setIfInBounds_toArray, List.set_cons_zero, List.set_cons_succ]
        refine takeD (i := 8) (d := some 18) (v := (.pointer (some ⟨g, 0, none⟩))) rfl (by kernel_rfl) (by kernel_rfl) (by kernel_rfl) rfl (fun _ _ _ h => h) (Or.inl ⟨by kernel_rfl, fun w9 hw => y_nil rfl rfl⟩) hHeld ?_
        simp only [Act.put, List.setIfInBounds_toArray, List.set_cons_zero, List.set_cons_succ]
        refine takeD (i := 9) (d := some 19) (v := (.pointer (some ⟨g, 3, none⟩))) rfl (by kernel_rfl) (by kernel_rfl) (by kernel_rfl) rfl (fun _ _ _ h => h) (Or.inl ⟨by kernel_rfl, fun w9 hw => y_ft (by decide) rfl rfl⟩) hHeld ?_
        simp only [Act.put, List.setIfInBounds_toArray, List.set_cons_zero, List.set_cons_succ]
        refine takeD (i := 10) (d := some 20) (v := (.int .i64 (mj : Int))) rfl (by kernel_rfl) (by kernel_rfl) (by kernel_rfl) rfl (fun _ _ _ h => h) (Or.inl ⟨by kernel_rfl, fun w9 hw => y_one rfl (by decide) rfl (hw.b.cell 3) rfl⟩) hHeld ?_
        simp only [Act.put, List.setIfInBounds_toArray, List.set_cons_zero, List.set_cons_succ]
        refine takeD (i := 11) (d := some 21) (v := (.pointer (some ⟨os, mj * 37, none⟩))) rfl (by kernel_rfl) (by kernel_rfl) (by kernel_rfl) rfl (fun _ _ _ h => h) (Or.inl ⟨by kernel_rfl, fun w9 hw => y_ix rfl rfl rfl HX.out.2.1⟩) hHeld ?_
        simp only [Act.put, List.setIfInBounds_toArray, List.set_cons_zero, List.set_cons_succ]
        refine takeD (i := 12) (d := some 22) (v := (.agg (slotL s).toArray)) rfl (by kernel_rfl) (by kernel_rfl) (by kernel_rfl) rfl (fun _ _ _ h => h) (Or.inl ⟨by kernel_rfl, fun w9 hw => y_slot rfl rfl (hw.o.range HX.out.2.2.1)⟩) hHeld ?_
        simp only [Act.put, List.setIfInBounds_toArray, List.set_cons_zero, List.set_cons_succ]
        refine readyD (i := 13) (d := some 2) rfl (by kernel_rfl) rfl (by kernel_rfl) fun K hK => ?_
        refine op_yield (y_allocS rfl) ?_
        have ha := (Mod.refl no wr.drew).alloc (.cells (slotL .empty).toArray 133)
        have hb := Blk.new wr.drew 133 (slotL .empty).toArray
        refine hK _ _ (hHeld.no ha) fun hHeld9 => ?_
        have HB := Lib.hid (And.intro ha hb)
        clear hK K hHeld ha hb
        have hHeld := hHeld9
        clear hHeld9
        simp only [Act.put, List.setIfInBounds_toArray, List.set_cons_zero, List.set_cons_succ]
        obtain ⟨bx, hbx⟩ : ∃ bx, bx = wr.drew.heap.size := ⟨_, rfl⟩
        rw [← hbx] at HB ⊢
        obtain ⟨w3, hw3⟩ : ∃ w3, w3 = wr.drew.alloc (.cells (slotL .empty).toArray 133) := ⟨_, rfl⟩
        rw [← hw3] at HB hHeld ⊢
        have HBX := Lib.hid hbx
        clear hw3 hbx
        refine readyD (i := 14) (d := none) rfl (by kernel_rfl) rfl (by kernel_rfl) fun K hK => ?_
        refine wp_store_mid 133 (.tmp 2) (.tmp 22) rfl bx 0 (slotL s).toArray rfl rfl (by rw [List.size_toArray, slotL_len]; exact blk_there HB.out.2 0 37 (by rw [List.size_toArray, slotL_len]; decide)) (slot_sizeG _) (all_oneCell_toArray (slot_ones _)) ?_
        have hm4 : Mod no wr.drew (World.setCells w3 bx 0 (slotL s)) := mod_setCells (fun c => by have := HBX.out; omega) _ _ _ HB.out.1
        have hr4 : (World.setCells w3 bx 0 (slotL s)).rangeAt bx 0 (slotL s) := World.rangeAt_setCells_same _ _ _ _ (by rw [slotL_len]; exact blk_there HB.out.2 0 37 (by rw [List.size_toArray, slotL_len]; decide))
        have hs4 := HS.out.no ((Mod.refl no wr).drew.and_then hm4)
        have H4 := Lib.hid (And.intro hs4 hr4)
        refine hK _ _ hs4 fun hHeld9 => ?_
        clear hK K hHeld hm4 hr4 hs4 hHeld9
        simp only [Act.put, List.setIfInBounds_toArray, List.set_cons_zero, List.set_cons_succ]
        refine wpAnyH_done (by kernel_rfl) ?_ _
        obtain ⟨w4, hw4⟩ : ∃ w4, w4 = World.setCells w3 bx 0 (slotL s) := ⟨_, rfl⟩
        try simp only [List.toList_toArray]
        rw [← hw4] at H4 ⊢
        clear hw4
        have c0 := H4.out.2 0 _ rfl
        cases s with
        | empty =>
          have c0' : w4.cell? ⟨bx, 0, none⟩ = some (.int .u8 0) := c0
          have HE := Lib.hid (show StM w w4 R g ya ys oa os mj y o ∧ step1 hash (y, o) mj = (y, o) from ⟨H4.out.1, by unfold step1; dsimp only; rw [HX.out.2.2.1]⟩)
          clear c0
          have c3 := HE.out.1.b.cell 3
          have f3 := HE.out.1.b.free 3
          have hwr : wrap64 ((mj : Int) + 1) = (mj : Int) + 1 := IntWalk.wrap64_in _ (by have := HMB.out; omega)
          have hwj : wrap64 ((j : Int) + 1) = (j : Int) + 1 := IntWalk.wrap64_in _ (by have := HX.out.1; omega)
          go_wp2_with fail
          go_roundw
          case rel =>
            refine ⟨j + 1, HX.out.1, by go_num, ?_⟩
            rw [HX.out.2.2.2.1, HE.out.2]
            have hm5 : Mod (one g) w4 (World.setCell w4 ⟨g, 3, none⟩ (.int .i64 ((mj : Int) + 1))) := (Mod.refl (one g) w4).set (p := ⟨g, 3, none⟩) (fun _ => (rfl : one g g)) _
            have n1 : ¬ one g ya := fun c => HR.out.2.2.2.2.2.2.2.1 c.symm
            have n2 : ¬ one g ys := fun c => HR.out.2.2.2.2.2.2.2.2.1 c.symm
            have n3 : ¬ one g oa := fun c => HR.out.2.2.2.2.2.2.2.2.2.1 c.symm
            have n4 : ¬ one g os := fun c => HR.out.2.2.2.2.2.2.2.2.2.2.1 c.symm
            have hb5 := HE.out.1.b.put 3 (.int .i64 ((mj : Int) + 1))
            rw [show (mj : Int) + 1 = ((t.m + (j + 1) : Nat) : Int) by have := HMJ.out; omega] at hb5 hm5 ⊢
            exact ⟨hb5, HE.out.1.y.mod hm5 n1 n2, HE.out.1.o.mod hm5 n3 n4, HE.out.1.m.and_then (hm5.mono (fun k' _ c => by have c : k' = g := c; rw [c]; exact HR.out.1))⟩
          case measure =>
            have := HX.out.1
            try rw [hwj]
            clear hwj hwr
            show 8 - ((j : Int) + 1).toNat < 8 - ((j : Int)).toNat
            omega
        | tomb =>
          have c0' : w4.cell? ⟨bx, 0, none⟩ = some (.int .u8 2) := c0
          have HE := Lib.hid (show StM w w4 R g ya ys oa os mj y o ∧ step1 hash (y, o) mj = (y, o) from ⟨H4.out.1, by unfold step1; dsimp only; rw [HX.out.2.2.1]⟩)
          clear c0
          have c3 := HE.out.1.b.cell 3
          have f3 := HE.out.1.b.free 3
          have hwr : wrap64 ((mj : Int) + 1) = (mj : Int) + 1 := IntWalk.wrap64_in _ (by have := HMB.out; omega)
          have hwj : wrap64 ((j : Int) + 1) = (j : Int) + 1 := IntWalk.wrap64_in _ (by have := HX.out.1; omega)
          go_wp2_with fail
          go_roundw
          case rel =>
            refine ⟨j + 1, HX.out.1, by go_num, ?_⟩
            rw [HX.out.2.2.2.1, HE.out.2]
            have hm5 : Mod (one g) w4 (World.setCell w4 ⟨g, 3, none⟩ (.int .i64 ((mj : Int) + 1))) := (Mod.refl (one g) w4).set (p := ⟨g, 3, none⟩) (fun _ => (rfl : one g g)) _
            have n1 : ¬ one g ya := fun c => HR.out.2.2.2.2.2.2.2.1 c.symm
            have n2 : ¬ one g ys := fun c => HR.out.2.2.2.2.2.2.2.2.1 c.symm
            have n3 : ¬ one g oa := fun c => HR.out.2.2.2.2.2.2.2.2.2.1 c.symm
            have n4 : ¬ one g os := fun c => HR.out.2.2.2.2.2.2.2.2.2.2.1 c.symm
            have hb5 := HE.out.1.b.put 3 (.int .i64 ((mj : Int) + 1))
            rw [show (mj : Int) + 1 = ((t.m + (j + 1) : Nat) : Int) by have := HMJ.out; omega] at hb5 hm5 ⊢
            exact ⟨hb5, HE.out.1.y.mod hm5 n1 n2, HE.out.1.o.mod hm5 n3 n4, HE.out.1.m.and_then (hm5.mono (fun k' _ c => by have c : k' = g := c; rw [c]; exact HR.out.1))⟩
          case measure =>
            have := HX.out.1
            try rw [hwj]
            clear hwj hwr
            show 8 - ((j : Int) + 1).toNat < 8 - ((j : Int)).toNat
            omega
        | full k v =>
          have c0' : w4.cell? ⟨bx, 0, none⟩ = some (.int .u8 1) := c0
          clear c0
          have hko : (k, v) ∈ ents o := mem_ents.2 ⟨mj, HX.out.2.2.1⟩
          have hnk2 : NK (ents o ++ ents y) := HM.out.2.1.perm HX.out.2.2.2.2.1.pm.symm
          have hky : ∀ v', (k, v') ∉ ents y := fun v' hv => hnk2.apart hko hv
          obtain ⟨gg, d, x, l1, l2, l3, l4, l5, l6, l7, l8, l9⟩ := lay_is (v := v) HX.out.2.2.2.2.1.oky hky (by have := HX.out.2.2.2.2.1.cap; have := HX.out.2.2.2.2.1.ly; have := HM.out.2.2.1; omega)
          have hyl := HX.out.2.2.2.2.1.ly
          have hul := ents_le y
          have hol := ents_le o
          have hlen := ents_len_set (y := .tomb) HX.out.2.2.1
          have htom := tombs_set o mj (.full k v) .tomb HX.out.2.2.1
          have HL := Lib.hid (And.intro l1 (And.intro l2 (And.intro l3 (And.intro l4 (And.intro l7 l8)))))
          have HT := Lib.hid (show (ents o).length = (ents (o.set mj .tomb)).length + 1 ∧ tombs (o.set mj .tomb) = tombs o + 1 ∧ (ents y).length ≤ 1099511627776 ∧ tombs (lay hash y k v) ≤ 1099511627776 ∧ (ents o).length ≤ 1099511627776 ∧ tombs o ≤ 1099511627776 ∧ Pow y.length from by
            have hll := HX.out.2.2.2.2.2
            have hb1 := HM.out.2.2.2.2.1
            have hb2 := HM.out.2.2.2.2.2.1
            simp only [Slot.ent, Option.toList_some, Option.toList_none, List.length_cons, List.length_nil] at hlen
            simp only [Slot.isTomb, Bool.toNat_false, Bool.toNat_true] at htom
            exact ⟨by omega, by omega, by omega, by omega, by omega, by omega, by rw [hyl]; exact HM.out.2.2.2.2.2.2⟩)
          clear hko hnk2 hky l1 l2 l3 l4 l5 l6 l7 l8 l9 hyl hul hol hlen htom
          go_upto_region 5 with fail
          have HBN := Lib.hid (show ¬ two ya ys bx from fun c => by have h1 := H0.out.y.a.lt; have h2 := H0.out.y.s.lt; have h3 := HBX.out; have h4 := HS.out.m.size; have h5 : wr.drew.heap.size = wr.heap.size := rfl; rcases c with c | c <;> omega)
          refine wp_region_held_drew (S := fun w' => Blk w' g 127 #[hashV, .pointer (some ⟨ya, 0, none⟩), .pointer (some ⟨oa, 0, none⟩), .int .i64 (mj : Int)] ∧ w'.rangeAt bx 0 (slotL (.full k v))) (by kernel_rfl) ⟨H4.out.1.b, H4.out.2⟩ (fun hHeld => ?_)
          refine takeD (i := 0) (d := some 26) (v := (.pointer (some ⟨g, 0, none⟩))) rfl (by kernel_rfl) (by kernel_rfl) (by kernel_rfl) rfl (fun _ _ _ h => h) (Or.inl ⟨by kernel_rfl, fun w9 hw => y_move rfl rfl⟩) hHeld ?_
          simp only [Act.put, List.setIfInBounds_toArray, List.set_cons_zero, List.set_cons_succ]
          refine takeD (i := 1) (d := some 27) (v := (.pointer (some ⟨g, 0, none⟩))) rfl (by kernel_rfl) (by kernel_rfl) (by kernel_rfl) rfl (fun _ _ _ h => h) (Or.inl ⟨by kernel_rfl, fun w9 hw => y_nil rfl rfl⟩) hHeld ?_
          simp only [Act.put, List.setIfInBounds_toArray, List.set_cons_zero, List.set_cons_succ]
          refine takeD (i := 2) (d := some 28) (v := (.pointer (some ⟨g, 1, none⟩))) rfl (by kernel_rfl) (by kernel_rfl) (by kernel_rfl) rfl (fun _ _ _ h => h) (Or.inl ⟨by kernel_rfl, fun w9 hw => y_ft (by decide) rfl rfl⟩) hHeld ?_
          simp only [Act.put, List.setIfInBounds_toArray, List.set_cons_zero, List.set_cons_succ]
          refine takeD (i := 3) (d := some 29) (v := (.pointer (some ⟨ya, 0, none⟩))) rfl (by kernel_rfl) (by kernel_rfl) (by kernel_rfl) rfl (fun _ _ _ h => h) (Or.inl ⟨by kernel_rfl, fun w9 hw => y_one rfl (by decide) rfl (hw.1.cell 1) rfl⟩) hHeld ?_
          simp only [Act.put, List.setIfInBounds_toArray, List.set_cons_zero, List.set_cons_succ]
          refine takeD (i := 4) (d := some 30) (v := (.pointer (some ⟨g, 0, none⟩))) rfl (by kernel_rfl) (by kernel_rfl) (by kernel_rfl) rfl (fun _ _ _ h => h) (Or.inl ⟨by kernel_rfl, fun w9 hw => y_move rfl rfl⟩) hHeld ?_
          simp only [Act.put, List.setIfInBounds_toArray, List.set_cons_zero, List.set_cons_succ]
          refine takeD (i := 5) (d := some 31) (v := (.pointer (some ⟨g, 0, none⟩))) rfl (by kernel_rfl) (by kernel_rfl) (by kernel_rfl) rfl (fun _ _ _ h => h) (Or.inl ⟨by kernel_rfl, fun w9 hw => y_nil rfl rfl⟩) hHeld ?_
          simp only [Act.put, List.setIfInBounds_toArray, List.set_cons_zero, List.set_cons_succ]
          refine takeD (i := 6) (d := some 32) (v := (.pointer (some ⟨g, 0, none⟩))) rfl (by kernel_rfl) (by kernel_rfl) (by kernel_rfl) rfl (fun _ _ _ h => h) (Or.inl ⟨by kernel_rfl, fun w9 hw => y_ft (by decide) rfl rfl⟩) hHeld ?_
          simp only [Act.put, List.setIfInBounds_toArray, List.set_cons_zero, List.set_cons_succ]
          refine takeD (i := 7) (d := some 33) (v := (hashV)) rfl (by kernel_rfl) (by kernel_rfl) (by kernel_rfl) rfl (fun _ _ _ h => h) (Or.inl ⟨by kernel_rfl, fun w9 hw => y_one rfl (by decide) rfl (hw.1.cell 0) rfl⟩) hHeld ?_
          simp only [Act.put, List.setIfInBounds_toArray, List.set_cons_zero, List.set_cons_succ]
          refine takeD (i := 8) (d := some 34) (v := (.pointer (some ⟨bx, 0 + 1, none⟩))) rfl (by kernel_rfl) (by kernel_rfl) (by kernel_rfl) rfl (fun _ _ _ h => h) (Or.inl ⟨by kernel_rfl, fun w9 hw => y_sk rfl rfl⟩) hHeld ?_
          simp only [Act.put, List.setIfInBounds_toArray, List.set_cons_zero, List.set_cons_succ]
          refine takeD (i := 9) (d := some 35) (v := (.agg k.L.toArray)) rfl (by kernel_rfl) (by kernel_rfl) (by kernel_rfl) rfl (fun _ _ _ h => h) (Or.inl ⟨by kernel_rfl, fun w9 hw => y_key rfl rfl (range_key hw.2)⟩) hHeld ?_
          simp only [Act.put, List.setIfInBounds_toArray, List.set_cons_zero, List.set_cons_succ]
          refine takeD (i := 11) (d := some 37) (v := (.pointer (some ⟨bx, 0 + 1, none⟩))) rfl (by kernel_rfl) (by kernel_rfl) (by kernel_rfl) rfl (fun _ _ _ h => h) (Or.inl ⟨by kernel_rfl, fun w9 hw => y_sk rfl rfl⟩) hHeld ?_
          simp only [Act.put, List.setIfInBounds_toArray, List.set_cons_zero, List.set_cons_succ]
          refine takeD (i := 12) (d := some 38) (v := (.agg k.L.toArray)) rfl (by kernel_rfl) (by kernel_rfl) (by kernel_rfl) rfl (fun _ _ _ h => h) (Or.inl ⟨by kernel_rfl, fun w9 hw => y_key rfl rfl (range_key hw.2)⟩) hHeld ?_
          simp only [Act.put, List.setIfInBounds_toArray, List.set_cons_zero, List.set_cons_succ]
          refine takeD (i := 13) (d := some 39) (v := (.pointer (some ⟨bx, 0 + 33, none⟩))) rfl (by kernel_rfl) (by kernel_rfl) (by kernel_rfl) rfl (fun _ _ _ h => h) (Or.inl ⟨by kernel_rfl, fun w9 hw => y_sv rfl rfl⟩) hHeld ?_
          simp only [Act.put, List.setIfInBounds_toArray, List.set_cons_zero, List.set_cons_succ]
          refine takeD (i := 14) (d := some 40) (v := (.agg v.L.toArray)) rfl (by kernel_rfl) (by kernel_rfl) (by kernel_rfl) rfl (fun _ _ _ h => h) (Or.inl ⟨by kernel_rfl, fun w9 hw => y_ent rfl rfl (range_ent hw.2)⟩) hHeld ?_
          simp only [Act.put, List.setIfInBounds_toArray, List.set_cons_zero, List.set_cons_succ]
          refine readyD (i := 10) (d := some 36) rfl (by kernel_rfl) rfl (by kernel_rfl) fun K hK => ?_
          refine op_v1 (fun _ _ => rfl) rfl rfl rfl (hash_any k _) ?_
          rintro e w5 ⟨rfl, hm5⟩
          have H5 := Lib.hid (show StM w w5 R g ya ys oa os mj y o from H4.out.1.no ((Mod.refl no w4).drew.and_then hm5))
          refine ⟨_, rfl, hK _ _ ⟨hHeld.1.mod hm5 (fun c => c), range_mod hHeld.2 hm5 (fun c => c)⟩ fun hHeld9 => ?_⟩
          clear hK K hHeld
          have hHeld := hHeld9
          clear hHeld9
          simp only [Act.put, List.setIfInBounds_toArray, List.set_cons_zero, List.set_cons_succ]
          refine readyD (i := 15) (d := some 41) rfl (by kernel_rfl) rfl (by kernel_rfl) fun K hK => ?_
          refine op_c4 (fun _ _ => rfl) rfl rfl rfl rfl rfl (lay_any (t := tombs (lay hash y k v)) v (by rw [HL.out.2.2.2.2.2]; exact H5.out.y) HT.out.2.2.2.2.2.2 (hash_lt k) HL.out.1 HL.out.2.2.1 HL.out.2.2.2.1 HT.out.2.2.1 HT.out.2.2.2.1) ?_
          rintro e w6 ⟨rfl, ha6, hm6⟩
          have H6 := Lib.hid (And.intro ha6 hm6)
          refine ⟨_, rfl, hK _ _ ⟨hHeld.1.mod hm6 (fun c => c.elim HR.out.2.2.2.2.2.2.2.1 HR.out.2.2.2.2.2.2.2.2.1), range_mod hHeld.2 hm6 HBN.out⟩ fun hHeld9 => ?_⟩
          clear hK K hHeld
          have hHeld := hHeld9
          clear hHeld9
          simp only [Act.put, List.setIfInBounds_toArray, List.set_cons_zero, List.set_cons_succ]
          refine wpAnyH_done (by kernel_rfl) ?_ _
          have hb6 := hHeld.1
          have H7 := Lib.hid (show Blk w6 g 127 #[hashV, .pointer (some ⟨ya, 0, none⟩), .pointer (some ⟨oa, 0, none⟩), .int .i64 (mj : Int)] ∧ ArrAt w6 oa os o ((ents (o.set mj .tomb)).length + 1) (tombs o) ∧ Mod R w w6 from
            ⟨hb6, by
              have := H5.out.o.mod H6.out.2 (fun c => c.elim HR.out.2.2.2.2.2.1 HR.out.2.2.2.2.2.2.2.2.2.2.2.2.2.1) (fun c => c.elim (fun c => HR.out.2.2.2.2.2.2.2.2.2.2.2.2.1 c.symm) HR.out.2.2.2.2.2.2.1)
              rw [HT.out.1] at this
              exact this, H5.out.m.and_then (H6.out.2.mono (fun q _ c => by rcases c with rfl | rfl; exact HR.out.2.1; exact HR.out.2.2.1))⟩)
          clear hHeld hb6
          go_upto_region 6 with fail
          refine wp_region_held_drew (S := fun w' => Blk w' g 127 #[hashV, .pointer (some ⟨ya, 0, none⟩), .pointer (some ⟨oa, 0, none⟩), .int .i64 (mj : Int)]) (by kernel_rfl) H7.out.1 (fun hHeld => ?_)
          refine takeD (i := 0) (d := some 42) (v := (.pointer (some ⟨g, 0, none⟩))) rfl (by kernel_rfl) (by kernel_rfl) (by kernel_rfl) rfl (fun _ _ _ h => h) (Or.inl ⟨by kernel_rfl, fun w9 hw => y_move rfl rfl⟩) hHeld ?_
          simp only [Act.put, List.setIfInBounds_toArray, List.set_cons_zero, List.set_cons_succ]
          refine takeD (i := 1) (d := some 43) (v := (.pointer (some ⟨g, 0, none⟩))) rfl (by kernel_rfl) (by kernel_rfl) (by kernel_rfl) rfl (fun _ _ _ h => h) (Or.inl ⟨by kernel_rfl, fun w9 hw => y_nil rfl rfl⟩) hHeld ?_
          simp only [Act.put, List.setIfInBounds_toArray, List.set_cons_zero, List.set_cons_succ]
          refine takeD (i := 2) (d := some 44) (v := (.pointer (some ⟨g, 2, none⟩))) rfl (by kernel_rfl) (by kernel_rfl) (by kernel_rfl) rfl (fun _ _ _ h => h) (Or.inl ⟨by kernel_rfl, fun w9 hw => y_ft (by decide) rfl rfl⟩) hHeld ?_
          simp only [Act.put, List.setIfInBounds_toArray, List.set_cons_zero, List.set_cons_succ]
          refine takeD (i := 3) (d := some 45) (v := (.pointer (some ⟨oa, 0, none⟩))) rfl (by kernel_rfl) (by kernel_rfl) (by kernel_rfl) rfl (fun _ _ _ h => h) (Or.inl ⟨by kernel_rfl, fun w9 hw => y_one rfl (by decide) rfl (Blk.cell hw 2) rfl⟩) hHeld ?_
          simp only [Act.put, List.setIfInBounds_toArray, List.set_cons_zero, List.set_cons_succ]
          refine takeD (i := 4) (d := some 46) (v := (.pointer (some ⟨g, 0, none⟩))) rfl (by kernel_rfl) (by kernel_rfl) (by kernel_rfl) rfl (fun _ _ _ h => h) (Or.inl ⟨by kernel_rfl, fun w9 hw => y_move rfl rfl⟩) hHeld ?_
          simp only [Act.put, List.setIfInBounds_toArray, List.set_cons_zero, List.set_cons_succ]
          refine takeD (i := 5) (d := some 47) (v := (.pointer (some ⟨g, 0, none⟩))) rfl (by kernel_rfl) (by kernel_rfl) (by kernel_rfl) rfl (fun _ _ _ h => h) (Or.inl ⟨by kernel_rfl, fun w9 hw => y_nil rfl rfl⟩) hHeld ?_
          simp only [Act.put, List.setIfInBounds_toArray, List.set_cons_zero, List.set_cons_succ]
          refine takeD (i := 6) (d := some 48) (v := (.pointer (some ⟨g, 3, none⟩))) rfl (by kernel_rfl) (by kernel_rfl) (by kernel_rfl) rfl (fun _ _ _ h => h) (Or.inl ⟨by kernel_rfl, fun w9 hw => y_ft (by decide) rfl rfl⟩) hHeld ?_
          simp only [Act.put, List.setIfInBounds_toArray, List.set_cons_zero, List.set_cons_succ]
          refine takeD (i := 7) (d := some 49) (v := (.int .i64 (mj : Int))) rfl (by kernel_rfl) (by kernel_rfl) (by kernel_rfl) rfl (fun _ _ _ h => h) (Or.inl ⟨by kernel_rfl, fun w9 hw => y_one rfl (by decide) rfl (Blk.cell hw 3) rfl⟩) hHeld ?_
          simp only [Act.put, List.setIfInBounds_toArray, List.set_cons_zero, List.set_cons_succ]
          refine readyD (i := 8) (d := some 50) rfl (by kernel_rfl) rfl (by kernel_rfl) fun K hK => ?_
          refine op_c2 (fun _ _ => rfl) rfl rfl rfl (bury_any (show ArrAt w6.drew oa os o ((ents (o.set mj .tomb)).length + 1) (tombs o) from ⟨H7.out.2.1.a, H7.out.2.1.s⟩) HX.out.2.2.1 (by have := HT.out.2.2.2.2.1; have := HT.out.1; omega) HT.out.2.2.2.2.2.1) ?_
          rintro e w7 ⟨rfl, ha7, hm7⟩
          have H8 := Lib.hid (And.intro ha7 (And.intro (show Mod (two oa os) w6 w7 from (Mod.refl _ w6).drew.and_then hm7) trivial))
          refine ⟨_, rfl, hK _ _ (Blk.mod hHeld hm7 (fun c => c.elim HR.out.2.2.2.2.2.2.2.2.2.1 HR.out.2.2.2.2.2.2.2.2.2.2.1)) fun hHeld9 => ?_⟩
          clear hK K hHeld
          have hHeld := hHeld9
          clear hHeld9
          simp only [Act.put, List.setIfInBounds_toArray, List.set_cons_zero, List.set_cons_succ]
          refine wpAnyH_done (by kernel_rfl) ?_ _
          have HE := Lib.hid (show StM w w7 R g ya ys oa os mj (lay hash y k v) (o.set mj .tomb) ∧ step1 hash (y, o) mj = (lay hash y k v, o.set mj .tomb) from ⟨⟨hHeld, by
              have h9 := H6.out.1.mod H8.out.2.1 (fun c => c.elim (fun c => HR.out.2.2.2.2.2.1 c.symm) HR.out.2.2.2.2.2.2.2.2.2.2.2.2.1) (fun c => c.elim (fun c => HR.out.2.2.2.2.2.2.2.2.2.2.2.2.2.1 c.symm) (fun c => HR.out.2.2.2.2.2.2.1 c.symm))
              rw [HL.out.2.1] at h9 ⊢
              rw [← HL.out.2.1] at h9 ⊢
              rw [HL.out.2.2.2.2.1]
              exact h9, by
              have h9 := H8.out.1
              rw [← HT.out.2.1] at h9
              exact h9, H7.out.2.2.and_then (H8.out.2.1.mono (fun q _ c => by rcases c with rfl | rfl; exact HR.out.2.2.2.1; exact HR.out.2.2.2.2.1))⟩, by unfold step1; dsimp only; rw [HX.out.2.2.1]⟩)
          clear hHeld
          have c3 := HE.out.1.b.cell 3
          have f3 := HE.out.1.b.free 3
          have hwr : wrap64 ((mj : Int) + 1) = (mj : Int) + 1 := IntWalk.wrap64_in _ (by have := HMB.out; omega)
          have hwj : wrap64 ((j : Int) + 1) = (j : Int) + 1 := IntWalk.wrap64_in _ (by have := HX.out.1; omega)
          go_wp2_with fail
          go_roundw
          case rel =>
            refine ⟨j + 1, HX.out.1, by go_num, ?_⟩
            rw [HX.out.2.2.2.1, HE.out.2]
            have hm5 : Mod (one g) w7 (World.setCell w7 ⟨g, 3, none⟩ (.int .i64 ((mj : Int) + 1))) := (Mod.refl (one g) w7).set (p := ⟨g, 3, none⟩) (fun _ => (rfl : one g g)) _
            have n1 : ¬ one g ya := fun c => HR.out.2.2.2.2.2.2.2.1 c.symm
            have n2 : ¬ one g ys := fun c => HR.out.2.2.2.2.2.2.2.2.1 c.symm
            have n3 : ¬ one g oa := fun c => HR.out.2.2.2.2.2.2.2.2.2.1 c.symm
            have n4 : ¬ one g os := fun c => HR.out.2.2.2.2.2.2.2.2.2.2.1 c.symm
            have hb5 := HE.out.1.b.put 3 (.int .i64 ((mj : Int) + 1))
            rw [show (mj : Int) + 1 = ((t.m + (j + 1) : Nat) : Int) by have := HMJ.out; omega] at hb5 hm5 ⊢
            exact ⟨hb5, HE.out.1.y.mod hm5 n1 n2, HE.out.1.o.mod hm5 n3 n4, HE.out.1.m.and_then (hm5.mono (fun k' _ c => by have c : k' = g := c; rw [c]; exact HR.out.1))⟩
          case measure =>
            have := HX.out.1
            try rw [hwj]
            clear hwj hwr
            show 8 - ((j : Int) + 1).toNat < 8 - ((j : Int)).toNat
            omega
      · obtain rfl : j = 8 := by omega
        have g1 : ¬ ((8 : Nat) : Int) < 8 := by omega
        obtain ⟨hk, hkl⟩ := HM.out.1.many HM.out.2.1 HM.out.2.2.1 8 HM.out.2.2.2.1
        obtain ⟨p, hp⟩ : ∃ p, p = moved hash t.y l t.m 8 := ⟨_, rfl⟩
        have HP := Lib.hid (show step hash t = if l.length ≤ t.m + 8 then ⟨p.1, none, 0⟩ else ⟨p.1, some p.2, t.m + 8⟩ by rw [hp]; exact HST.out)
        rw [← hp] at hk hkl hs
        obtain ⟨y, o⟩ := p
        dsimp only at hk hkl hs HP
        have HS := Lib.hid hs
        have HX := Lib.hid (And.intro hk hkl)
        clear hp hk hkl hs hlt hj
        obtain ⟨mm, hmm⟩ : ∃ mm, mm = t.m + 8 := ⟨_, rfl⟩
        rw [← hmm] at HS HP
        have c0 := HS.out.o.a.cell 0
        have c2 := HS.out.b.cell 2
        have c3 := HS.out.b.cell 3
        have f2 := HS.out.b.free 2
        have f3 := HS.out.b.free 3
        have n1 : ∀ k', one g k' → R k' := fun k' c => by have c : k' = g := c; rw [c]; exact HR.out.1
        have hg1 : ¬ one g ya := fun c => HR.out.2.2.2.2.2.2.2.1 c.symm
        have hg2 : ¬ one g ys := fun c => HR.out.2.2.2.2.2.2.2.2.1 c.symm
        have HN := Lib.hid (And.intro n1 (And.intro hg1 hg2))
        have HMM := Lib.hid hmm
        clear n1 hg1 hg2 hmm
        by_cases hle : o.length ≤ mm
        · have g2 : (o.length : Int) ≤ (mm : Int) := by omega
          have hd : decide ((o.length : Int) ≤ (mm : Int)) = true := decide_eq_true g2
          have HST2 := Lib.hid (show step hash t = ⟨y, none, 0⟩ by rw [HP.out, if_pos (by have := HX.out.2; have := HMM.out; omega)])
          clear hle
          go_wp2_with fail
          go_quiet (fail)
          go_wp2_with fail
          go_end0
          refine ⟨rfl, ⟨none, ?_⟩, ?_⟩
          · rw [HST2.out]
            have hm5 : Mod (one g) wr (((wr.drewN nq).setCell ⟨g, 2, none⟩ (.pointer none)).setCell ⟨g, 3, none⟩ (.int .i64 0)) := ((((Mod.refl (one g) wr).drewN nq).set (p := ⟨g, 2, none⟩) (fun _ => (rfl : one g g)) _).set (p := ⟨g, 3, none⟩) (fun _ => (rfl : one g g)) _)
            exact ⟨((HS.out.b.drewN nq).put 2 _).put 3 _, HS.out.y.mod hm5 HN.out.2.1 HN.out.2.2, rfl, HR.out.1, HR.out.2.1, HR.out.2.2.1⟩
          · exact ((HS.out.m.drewN nq).set (p := ⟨g, 2, none⟩) (fun _ => HR.out.1) _).set (p := ⟨g, 3, none⟩) (fun _ => HR.out.1) _
        · have g2 : ¬ (o.length : Int) ≤ (mm : Int) := by omega
          have hd : decide ((o.length : Int) ≤ (mm : Int)) = false := decide_eq_false g2
          have HST2 := Lib.hid (show step hash t = ⟨y, some o, mm⟩ by rw [HP.out, if_neg (by have := HX.out.2; have := HMM.out; omega)])
          clear hle
          go_wp2_with fail
          go_quiet (fail)
          go_wp2_with fail
          go_end0
          refine ⟨rfl, ⟨some ⟨oa, 0, none⟩, ?_⟩, HS.out.m.drewN nq⟩
          rw [HST2.out]
          have hs5 := HS.out.no ((Mod.refl no wr).drewN nq)
          exact ⟨hs5.b, hs5.y, ⟨oa, os, rfl, hs5.o, HR.out.2.2.2.1, HR.out.2.2.2.2.1, HR.out.2.2.2.2.2.1, HR.out.2.2.2.2.2.2.1⟩, HR.out.1, HR.out.2.1, HR.out.2.2.1⟩
end Go.Proofs.Ytknbehjhaaidoaa.TB

/- A table's Del. -/
namespace Go.Proofs.Ytknbehjhaaidoaa.TB
open Go.RowKit Mem HD
set_option linter.unusedVariables false
set_option linter.unusedSimpArgs false

/-- The blocks of a table lie below the heap's end. -/
def small (R : Nat → Prop) (w : World) (k : Nat) : Prop := R k ∧ k < w.heap.size
theorem TabM.small {w : World} {g ya ys : Nat} {R : Nat → Prop} {t : Tab Key Ent} {po : Option Addr} (h : TabM w g R t ya ys po) : TabM w g (small R w) t ya ys po := by
  refine ⟨h.b, h.y, ?_, ⟨h.rg, h.b.lt⟩, ⟨h.ry, h.y.a.lt⟩, ⟨h.rs, h.y.s.lt⟩⟩
  have ho := h.o
  cases hto : t.o with
  | none => rw [hto] at ho; exact ho
  | some l =>
    rw [hto] at ho
    obtain ⟨oa, os, h1, h2, h3, h4, h5⟩ := ho
    exact ⟨oa, os, h1, h2, ⟨h3, h2.a.lt⟩, ⟨h4, h2.s.lt⟩, h5⟩
theorem TabM.young {w w' : World} {g ya ys : Nat} {R : Nat → Prop} {t : Tab Key Ent} {po : Option Addr} (h : TabM w g R t ya ys po) (hm : Mod (two ya ys) w w') {y' : List Sl} (ha : ArrAt w' ya ys y' (ents y').length (tombs y')) : TabM w' g R ⟨y', t.o, t.m⟩ ya ys po := by
  refine ⟨h.b.mod hm (fun c => c.elim (h.b.ne h.y.a (by decide)) (h.b.ne h.y.s (by decide))), ha, ?_, h.rg, h.ry, h.rs⟩
  have ho := h.o
  show OldAt w' R ya ys po t.o
  cases hto : t.o with
  | none => rw [hto] at ho; exact ho
  | some l =>
    rw [hto] at ho
    obtain ⟨oa, os, h1, h2, h3, h4, h5, h6⟩ := ho
    exact ⟨oa, os, h1, h2.mod hm (fun c => c.elim h5 (h2.a.ne h.y.s (by decide))) (fun c => c.elim (h2.s.ne h.y.a (by decide)) h6), h3, h4, h5, h6⟩
theorem TabM.elder {w w' : World} {g ya ys oa os : Nat} {R : Nat → Prop} {t : Tab Key Ent} {l l' : List Sl} {u tt : Nat} (h : TabM w g R t ya ys (some ⟨oa, 0, none⟩)) (ho : ArrAt w oa os l u tt) (h1 : R oa) (h2 : R os) (h3 : oa ≠ ya) (h4 : os ≠ ys) (hm : Mod (two oa os) w w') (ha : ArrAt w' oa os l' (ents l').length (tombs l')) :
    TabM w' g R ⟨t.y, some l', t.m⟩ ya ys (some ⟨oa, 0, none⟩) :=
  ⟨h.b.mod hm (fun c => c.elim (h.b.ne ho.a (by decide)) (h.b.ne ho.s (by decide))), h.y.mod hm (fun c => c.elim (fun c => h3 c.symm) (h.y.a.ne ho.s (by decide))) (fun c => c.elim (h.y.s.ne ho.a (by decide)) (fun c => h4 c.symm)), ⟨oa, os, rfl, ha, h1, h2, h3, h4⟩, h.rg, h.ry, h.rs⟩
theorem small_le {R : Nat → Prop} {w : World} : ∀ k, small R w k → R k := fun _ c => c.1
set_option maxRecDepth 100000 in
set_option maxHeartbeats 4000000 in
theorem del_any {w : World} {g : Nat} {R : Nat → Prop} {t : Tab Key Ent} (ht : TabAt w g R t) (hw : WF hash 1 t) (k : Key) :
    Calls Try.prog 59 #[.pointer (some ⟨g, 0, none⟩), .agg k.L.toArray] w fun e w' => (∃ r, e = .returned (gotV r) ∧ Found t.L k r) ∧ (∃ t', WF hash 1 t' ∧ t'.L.Perm (less t.L k) ∧ TabAt w' g R t') ∧ Mod R w w' := by
  obtain ⟨ya, ys, po, ht⟩ := ht
  obtain ⟨f1, f2, f3, f4⟩ := w3_facts w k
  have ht1 := ht.small.mod f1 (fun _ _ c => c)
  have HA := Lib.hid (And.intro ht1 (And.intro f1 (And.intro f2 (And.intro f3 f4))))
  have HW := Lib.hid hw
  clear ht hw f1 f2 f3 f4 ht1
  go_enter Try.func59, Try.ntmps59
  go_upto_region 4 with (first
    | (go_at_call 85; refine (made_any ⟨ya, ys, po, HA.out.1⟩).mono ?_; rintro e w' ⟨rfl, rfl⟩))
  obtain ⟨w3, hw3⟩ : ∃ w3, w3 = W3 w k := ⟨_, rfl⟩
  rw [← hw3] at HA ⊢
  clear hw3
  obtain ⟨h0, hh0⟩ : ∃ h0, h0 = w.heap.size := ⟨_, rfl⟩
  have HH := Lib.hid hh0
  obtain ⟨R0, hR0⟩ : ∃ R0, R0 = small R w := ⟨_, rfl⟩
  have HR0 := Lib.hid hR0
  rw [← hh0, ← hR0] at HA
  rw [← hh0]
  clear hh0 hR0
  go_upto_region 5 with (first
    | (go_at_call 86; refine (step_any HA.out.1 HW.out).mono ?_; rintro e w4 ⟨rfl, ⟨po1, ht4⟩, hm4⟩; have H4 := Lib.hid (And.intro ht4 hm4); clear ht4 hm4))
  have hnb : ∀ x, h0 ≤ x → ¬ R0 x := fun x hx c => by rw [HR0.out] at c; have := c.2; have := HH.out; omega
  have HS := Lib.hid (step_wf HW.out)
  obtain ⟨t1, ht1⟩ : ∃ t1, t1 = step hash t := ⟨_, rfl⟩
  rw [← ht1] at H4 HS
  have HB := Lib.hid (show w4.rangeAt h0 0 k.L ∧ Blk w4 (h0 + 1) 56 e0.L.toArray ∧ Blk w4 (h0 + 1 + 1) 56 e0.L.toArray from ⟨range_mod HA.out.2.2.1 H4.out.2 (hnb _ (by omega)), HA.out.2.2.2.1.mod H4.out.2 (hnb _ (by omega)), HA.out.2.2.2.2.mod H4.out.2 (hnb _ (by omega))⟩)
  have HNB := Lib.hid hnb
  have HMW := Lib.hid (show Mod R0 w w4 from (HA.out.2.1.mono (fun _ _ c => c.elim)).and_then H4.out.2)
  clear ht1 hnb
  refine wp_region_held_drew (S := fun w' => TabM w' g R0 t1 ya ys po1 ∧ w'.rangeAt h0 0 k.L ∧ Blk w' (h0 + 1) 56 e0.L.toArray ∧ Blk w' (h0 + 1 + 1) 56 e0.L.toArray) (by kernel_rfl) ⟨H4.out.1.drew, HB.out⟩ (fun hHeld => ?_)
  refine takeD (i := 0) (d := some 17) (v := (.pointer (some ⟨g, 0, none⟩))) rfl (by kernel_rfl) (by kernel_rfl) (by kernel_rfl) rfl (fun _ _ _ h => h) (Or.inl ⟨by kernel_rfl, fun w9 hw => y_move rfl rfl⟩) hHeld ?_
  simp only [Act.put, List.setIfInBounds_toArray, List.set_cons_zero, List.set_cons_succ]
  refine takeD (i := 1) (d := some 18) (v := (.pointer (some ⟨g, 0, none⟩))) rfl (by kernel_rfl) (by kernel_rfl) (by kernel_rfl) rfl (fun _ _ _ h => h) (Or.inl ⟨by kernel_rfl, fun w9 hw => y_move rfl rfl⟩) hHeld ?_
  simp only [Act.put, List.setIfInBounds_toArray, List.set_cons_zero, List.set_cons_succ]
  refine takeD (i := 2) (d := some 19) (v := (.pointer (some ⟨g, 0, none⟩))) rfl (by kernel_rfl) (by kernel_rfl) (by kernel_rfl) rfl (fun _ _ _ h => h) (Or.inl ⟨by kernel_rfl, fun w9 hw => y_nil rfl rfl⟩) hHeld ?_
  simp only [Act.put, List.setIfInBounds_toArray, List.set_cons_zero, List.set_cons_succ]
  refine takeD (i := 3) (d := some 20) (v := (.pointer (some ⟨g, 0, none⟩))) rfl (by kernel_rfl) (by kernel_rfl) (by kernel_rfl) rfl (fun _ _ _ h => h) (Or.inl ⟨by kernel_rfl, fun w9 hw => y_ft (by decide) rfl rfl⟩) hHeld ?_
  simp only [Act.put, List.setIfInBounds_toArray, List.set_cons_zero, List.set_cons_succ]
  refine takeD (i := 4) (d := some 21) (v := (hashV)) rfl (by kernel_rfl) (by kernel_rfl) (by kernel_rfl) rfl (fun _ _ _ h => h) (Or.inl ⟨by kernel_rfl, fun w9 hw => y_one rfl (by decide) rfl (hw.1.b.cell 0) rfl⟩) hHeld ?_
  simp only [Act.put, List.setIfInBounds_toArray, List.set_cons_zero, List.set_cons_succ]
  refine takeD (i := 5) (d := some 22) (v := (.agg k.L.toArray)) rfl (by kernel_rfl) (by kernel_rfl) (by kernel_rfl) rfl (fun _ _ _ h => h) (Or.inl ⟨by kernel_rfl, fun w9 hw => y_key rfl rfl hw.2.1⟩) hHeld ?_
  simp only [Act.put, List.setIfInBounds_toArray, List.set_cons_zero, List.set_cons_succ]
  refine takeD (i := 7) (d := some 24) (v := (.agg k.L.toArray)) rfl (by kernel_rfl) (by kernel_rfl) (by kernel_rfl) rfl (fun _ _ _ h => h) (Or.inl ⟨by kernel_rfl, fun w9 hw => y_key rfl rfl hw.2.1⟩) hHeld ?_
  simp only [Act.put, List.setIfInBounds_toArray, List.set_cons_zero, List.set_cons_succ]
  refine readyD (i := 6) (d := some 23) rfl (by kernel_rfl) rfl (by kernel_rfl) fun K hK => ?_
  refine op_v1 (fun _ _ => rfl) rfl rfl rfl (hash_any k _) ?_
  rintro e w4' ⟨rfl, hm4⟩
  have HM4 := Lib.hid hm4
  refine ⟨_, rfl, hK _ _ ⟨hHeld.1.mod hm4 (fun _ _ c => c), range_mod hHeld.2.1 hm4 (fun c => c), hHeld.2.2.1.mod hm4 (fun c => c), hHeld.2.2.2.mod hm4 (fun c => c)⟩ fun hHeld9 => ?_⟩
  clear hK K hHeld
  have hHeld := hHeld9
  clear hHeld9
  simp only [Act.put, List.setIfInBounds_toArray, List.set_cons_zero, List.set_cons_succ]
  refine readyD (i := 8) (d := some 25) rfl (by kernel_rfl) rfl (by kernel_rfl) fun K hK => ?_
  refine op_c3 (fun _ _ => rfl) rfl rfl rfl rfl (seek_wf hHeld.1 HS.out.2.1 k) ?_
  rintro e w5 ⟨hm5, p, at_, d, rfl, hl⟩
  have HL := Lib.hid hl
  have HM5 := Lib.hid (show Mod no w4 w5 from ((Mod.refl no _).drew.and_then HM4.out).and_then hm5)
  refine ⟨_, rfl, hK _ _ ⟨hHeld.1.mod hm5 (fun _ _ c => c), range_mod hHeld.2.1 hm5 (fun c => c), hHeld.2.2.1.mod hm5 (fun c => c), hHeld.2.2.2.mod hm5 (fun c => c)⟩ fun hHeld9 => ?_⟩
  clear hK K hHeld
  have hHeld := hHeld9
  clear hHeld9
  simp only [Act.put, List.setIfInBounds_toArray, List.set_cons_zero, List.set_cons_succ]
  refine takeD (i := 9) (d := some 16) (v := (.tuple #[.pointer p, .int .i64 at_, .int .i64 d])) rfl (by kernel_rfl) (by kernel_rfl) (by kernel_rfl) rfl (fun _ _ _ h => h) (Or.inl ⟨by kernel_rfl, fun w9 hw => y_move rfl rfl⟩) hHeld ?_
  simp only [Act.put, List.setIfInBounds_toArray, List.set_cons_zero, List.set_cons_succ]
  refine takeD (i := 10) (d := some 26) (v := (.pointer p)) rfl (by kernel_rfl) (by kernel_rfl) (by kernel_rfl) rfl (fun _ _ _ h => h) (Or.inl ⟨by kernel_rfl, fun w9 hw => y_ext rfl rfl rfl⟩) hHeld ?_
  simp only [Act.put, List.setIfInBounds_toArray, List.set_cons_zero, List.set_cons_succ]
  refine takeD (i := 11) (d := some 27) (v := (.int .i64 at_)) rfl (by kernel_rfl) (by kernel_rfl) (by kernel_rfl) rfl (fun _ _ _ h => h) (Or.inl ⟨by kernel_rfl, fun w9 hw => y_ext rfl rfl rfl⟩) hHeld ?_
  simp only [Act.put, List.setIfInBounds_toArray, List.set_cons_zero, List.set_cons_succ]
  refine takeD (i := 12) (d := some 28) (v := (.int .i64 d)) rfl (by kernel_rfl) (by kernel_rfl) (by kernel_rfl) rfl (fun _ _ _ h => h) (Or.inl ⟨by kernel_rfl, fun w9 hw => y_ext rfl rfl rfl⟩) hHeld ?_
  simp only [Act.put, List.setIfInBounds_toArray, List.set_cons_zero, List.set_cons_succ]
  refine takeD (i := 13) (d := some 7) (v := (.pointer p)) rfl (by kernel_rfl) (by kernel_rfl) (by kernel_rfl) rfl (fun _ _ _ h => h) (Or.inl ⟨by kernel_rfl, fun w9 hw => y_assign rfl rfl⟩) hHeld ?_
  simp only [Act.put, List.setIfInBounds_toArray, List.set_cons_zero, List.set_cons_succ]
  refine takeD (i := 14) (d := some 8) (v := (.int .i64 at_)) rfl (by kernel_rfl) (by kernel_rfl) (by kernel_rfl) rfl (fun _ _ _ h => h) (Or.inl ⟨by kernel_rfl, fun w9 hw => y_assign rfl rfl⟩) hHeld ?_
  simp only [Act.put, List.setIfInBounds_toArray, List.set_cons_zero, List.set_cons_succ]
  refine takeD (i := 15) (d := some 9) (v := (.int .i64 d)) rfl (by kernel_rfl) (by kernel_rfl) (by kernel_rfl) rfl (fun _ _ _ h => h) (Or.inl ⟨by kernel_rfl, fun w9 hw => y_assign rfl rfl⟩) hHeld ?_
  simp only [Act.put, List.setIfInBounds_toArray, List.set_cons_zero, List.set_cons_succ]
  refine wpAnyH_done (by kernel_rfl) ?_ _
  have H5 := Lib.hid hHeld
  clear hHeld
  cases HL.out with
  | young n v h1 h2 h3 =>
    subst h1 h2
    have hul := ents_le t1.y
    have hyb := HS.out.2.1.py.bd
    have hbl := ents_len_set (y := .tomb) h3
    have htl := tombs_set t1.y n (.full k v) .tomb h3
    simp only [Slot.ent, Option.toList_some, Option.toList_none, List.length_cons, List.length_nil] at hbl
    simp only [Slot.isTomb, Bool.toNat_false, Bool.toNat_true] at htl
    have HY := Lib.hid (And.intro h3 (And.intro (show (ents t1.y).length = (ents (t1.y.set n .tomb)).length + 1 ∧ tombs (t1.y.set n .tomb) = tombs t1.y + 1 ∧ (ents t1.y).length ≤ 1099511627776 ∧ tombs t1.y ≤ 1099511627776 from ⟨by omega, by omega, by omega, by omega⟩) (show Found t.L k (some v) from (Found.yes HS.out.2.1.nk (by unfold Tab.L; exact List.mem_append_right _ (mem_ents.2 ⟨n, h3⟩))).perm HS.out.1)))
    clear hul hyb hbl htl h3 HL
    have HNB1 := Lib.hid (show ¬ two ya ys (h0 + 1) from fun c => by rcases c with c | c; exact HNB.out _ (by omega) (c ▸ H5.out.1.ry); exact HNB.out _ (by omega) (c ▸ H5.out.1.rs))
    go_wp2_with (first
      | (go_at_call 88; refine (bury_any (u := (ents (t1.y.set n .tomb)).length) (t := tombs t1.y) (by rw [← HY.out.2.1.1]; exact H5.out.1.y) HY.out.1 (by have := HY.out.2.1.1; have := HY.out.2.1.2.2.1; omega) HY.out.2.1.2.2.2).mono ?_; rintro e w6 ⟨rfl, ha6, hm6⟩; have H6 := Lib.hid (And.intro ha6 (And.intro hm6 (H5.out.2.2.1.mod hm6 HNB1.out))); clear ha6 hm6)
      | (refine wpList_store_mid rfl 56 (.tmp 4) (.tmp 34) (by rfl) (h0 + 1) 0 v.L.toArray (by rfl) (by rfl) (by exact blk_there H6.out.2.2 0 4 (by decide)) (ent_sizeG _) (all_oneCell_toArray (ent_ones _)) ?_
         obtain ⟨w7, hw7⟩ : ∃ w7, w7 = World.setCells w6 (h0 + 1) 0 v.L.toArray.toList := ⟨_, rfl⟩
         rw [← hw7]
         have HW7 := Lib.hid hw7
         clear hw7))
    have r7 : w7.rangeAt (h0 + 1) 0 v.L := by rw [HW7.out]; exact World.rangeAt_setCells_same _ _ _ _ (blk_there H6.out.2.2 0 4 (by decide))
    have m7 : Mod R0 w w7 := by rw [HW7.out]; exact mod_setCells (fun c => by have := HH.out; omega) _ _ _ ((HMW.out.and_then (HM5.out.mono (fun _ _ c => c.elim))).and_then (H6.out.2.1.mono (fun x _ c => c.elim (fun c => c ▸ H5.out.1.ry) (fun c => c ▸ H5.out.1.rs))))
    have m67 : Mod (one (h0 + 1)) w6 w7 := by rw [HW7.out]; exact mod_setCells (S := one (h0 + 1)) (fun _ => rfl) _ _ _ (Mod.refl _ _)
    have hA6 := H6.out.1
    rw [← HY.out.2.1.2.1] at hA6
    have ht6 := H5.out.1.young H6.out.2.1 hA6
    have ht7 := ht6.mod m67 (fun x hx c => by have c : x = h0 + 1 := c; rw [c] at hx; exact HNB.out _ (by omega) hx)
    have hle : ∀ x, R0 x → R x := fun x hx => by rw [HR0.out] at hx; exact hx.1
    have hwf := HS.out.2.1.buryY HY.out.1
    exact bodyPost_ret (v := gotV (some v)) (ret_two (p := 4) (u := 5) (ty := 56) rfl _ _ (h0 + 1) v.L _ rfl rfl r7 Try.underlying56 rfl (ent_sizeG _)) rfl ⟨⟨_, rfl, HY.out.2.2⟩, ⟨_, hwf.1, hwf.2.trans (less_perm HS.out.1 k), ya, ys, _, ht7.mono hle⟩, m7.mono (fun x _ c => hle x c)⟩
  | old l oa os n v h0' h1 h2 h3 h4 h5 h6 h7 h8 h9 h10 =>
    subst h2 h3 h1
    have hul := ents_le l
    have hyb := (HS.out.2.1.old l h0').1.bd
    have hbl := ents_len_set (y := .tomb) h4
    have htl := tombs_set l n (.full k v) .tomb h4
    simp only [Slot.ent, Option.toList_some, Option.toList_none, List.length_cons, List.length_nil] at hbl
    simp only [Slot.isTomb, Bool.toNat_false, Bool.toNat_true] at htl
    have HY := Lib.hid (And.intro h4 (And.intro (show (ents l).length = (ents (l.set n .tomb)).length + 1 ∧ tombs (l.set n .tomb) = tombs l + 1 ∧ (ents l).length ≤ 1099511627776 ∧ tombs l ≤ 1099511627776 from ⟨by omega, by omega, by omega, by omega⟩) (show Found t.L k (some v) from (Found.yes HS.out.2.1.nk (by unfold Tab.L; rw [h0']; exact List.mem_append_left _ (mem_ents.2 ⟨n, h4⟩))).perm HS.out.1)))
    have HO := Lib.hid (And.intro h0' (And.intro h6 (And.intro h7 (And.intro h8 (And.intro h9 h10)))))
    clear hul hyb hbl htl h4 h0' h5 h6 h7 h8 h9 h10 HL
    have HNB1 := Lib.hid (show ¬ two oa os (h0 + 1) from fun c => by rcases c with c | c; exact HNB.out _ (by omega) (c ▸ HO.out.2.2.1); exact HNB.out _ (by omega) (c ▸ HO.out.2.2.2.1))
    go_wp2_with (first
      | (go_at_call 88; refine (bury_any (u := (ents (l.set n .tomb)).length) (t := tombs l) (by rw [← HY.out.2.1.1]; exact HO.out.2.1) HY.out.1 (by have := HY.out.2.1.1; have := HY.out.2.1.2.2.1; omega) HY.out.2.1.2.2.2).mono ?_; rintro e w6 ⟨rfl, ha6, hm6⟩; have H6 := Lib.hid (And.intro ha6 (And.intro hm6 (H5.out.2.2.1.mod hm6 HNB1.out))); clear ha6 hm6)
      | (refine wpList_store_mid rfl 56 (.tmp 4) (.tmp 34) (by rfl) (h0 + 1) 0 v.L.toArray (by rfl) (by rfl) (by exact blk_there H6.out.2.2 0 4 (by decide)) (ent_sizeG _) (all_oneCell_toArray (ent_ones _)) ?_
         obtain ⟨w7, hw7⟩ : ∃ w7, w7 = World.setCells w6 (h0 + 1) 0 v.L.toArray.toList := ⟨_, rfl⟩
         rw [← hw7]
         have HW7 := Lib.hid hw7
         clear hw7))
    have r7 : w7.rangeAt (h0 + 1) 0 v.L := by rw [HW7.out]; exact World.rangeAt_setCells_same _ _ _ _ (blk_there H6.out.2.2 0 4 (by decide))
    have m7 : Mod R0 w w7 := by rw [HW7.out]; exact mod_setCells (fun c => by have := HH.out; omega) _ _ _ ((HMW.out.and_then (HM5.out.mono (fun _ _ c => c.elim))).and_then (H6.out.2.1.mono (fun x _ c => c.elim (fun c => c ▸ HO.out.2.2.1) (fun c => c ▸ HO.out.2.2.2.1))))
    have m67 : Mod (one (h0 + 1)) w6 w7 := by rw [HW7.out]; exact mod_setCells (S := one (h0 + 1)) (fun _ => rfl) _ _ _ (Mod.refl _ _)
    have hA6 := H6.out.1
    rw [← HY.out.2.1.2.1] at hA6
    have ht6 := H5.out.1.elder HO.out.2.1 HO.out.2.2.1 HO.out.2.2.2.1 HO.out.2.2.2.2.1 HO.out.2.2.2.2.2 H6.out.2.1 hA6
    have ht7 := ht6.mod m67 (fun x hx c => by have c : x = h0 + 1 := c; rw [c] at hx; exact HNB.out _ (by omega) hx)
    have hle : ∀ x, R0 x → R x := fun x hx => by rw [HR0.out] at hx; exact hx.1
    have hwf := (show WF hash 1 (⟨t1.y, some (l.set n .tomb), t1.m⟩ : Tab Key Ent) ∧ _ from ⟨(HS.out.2.1.buryO HO.out.1 HY.out.1).1.less_s (by decide), (HS.out.2.1.buryO HO.out.1 HY.out.1).2⟩)
    exact bodyPost_ret (v := gotV (some v)) (ret_two (p := 4) (u := 5) (ty := 56) rfl _ _ (h0 + 1) v.L _ rfl rfl r7 Try.underlying56 rfl (ent_sizeG _)) rfl ⟨⟨_, rfl, HY.out.2.2⟩, ⟨_, hwf.1, hwf.2.trans (less_perm HS.out.1 k), ya, ys, _, ht7.mono hle⟩, m7.mono (fun x _ c => hle x c)⟩
  | no h1 h2 =>
    subst h1
    have HN := Lib.hid h2
    clear h2 HL
    go_wp2_with (first
      | (refine wpList_load_mid rfl 56 (.tmp 6) (by rfl) (h0 + 1 + 1) 0 (by rfl) e0.L _ (by exact blk_range H5.out.2.2.2) Try.underlying56 rfl (ent_sizeG _) ?_)
      | (refine wpList_store_mid rfl 56 (.tmp 4) (.tmp 31) (by rfl) (h0 + 1) 0 e0.L.toArray (by rfl) (by rfl) (by exact blk_there H5.out.2.2.1 0 4 (by decide)) (ent_sizeG _) (all_oneCell_toArray (ent_ones _)) ?_
         obtain ⟨w7, hw7⟩ : ∃ w7, w7 = World.setCells w5 (h0 + 1) 0 e0.L.toArray.toList := ⟨_, rfl⟩
         rw [← hw7]
         have HW7 := Lib.hid hw7
         clear hw7))
    have r7 : w7.rangeAt (h0 + 1) 0 e0.L := by rw [HW7.out]; exact World.rangeAt_setCells_same _ _ _ _ (blk_there H5.out.2.2.1 0 4 (by decide))
    have m7 : Mod R0 w w7 := by rw [HW7.out]; exact mod_setCells (fun c => by have := HH.out; omega) _ _ _ (HMW.out.and_then (HM5.out.mono (fun _ _ c => c.elim)))
    have m57 : Mod (one (h0 + 1)) w5 w7 := by rw [HW7.out]; exact mod_setCells (S := one (h0 + 1)) (fun _ => rfl) _ _ _ (Mod.refl _ _)
    have ht7 := H5.out.1.mod m57 (fun x hx c => by have c : x = h0 + 1 := c; rw [c] at hx; exact HNB.out _ (by omega) hx)
    have hle : ∀ x, R0 x → R x := fun x hx => by rw [HR0.out] at hx; exact hx.1
    refine bodyPost_ret (v := gotV none) (ret_two (p := 4) (u := 5) (ty := 56) rfl _ _ (h0 + 1) e0.L _ rfl rfl r7 Try.underlying56 rfl (ent_sizeG _)) rfl ⟨⟨_, rfl, (Found.no HN.out).perm HS.out.1⟩, ⟨t1, HS.out.2.1, ?_, ya, ys, po1, ht7.mono hle⟩, m7.mono (fun x _ c => hle x c)⟩
    rw [less_no (fun v' hv' => HN.out v' (HS.out.1.mem_iff.2 hv'))]
    exact HS.out.1
end Go.Proofs.Ytknbehjhaaidoaa.TB

