/- IndexExact: the texts RiE of this seat, one behind the other. -/
import Derived.Test.YtknbehjhaaidoaaM20
/- The document's index: with. -/
namespace Go.Proofs.Ytknbehjhaaidoaa.IX
open Go.RowKit Go.Shelf Mem HD TB
set_option linter.unusedVariables false
set_option linter.unusedSimpArgs false
theorem set_snoc {l : List (Key × Ent)} {i j : Nat} {x : Key × Ent} {e : Ent} (hx : l[j]? = some x) : (l.modify i fun y => (y.1, e)).take (j + 1) = (l.modify i fun y => (y.1, e)).take j ++ [if j = i then (x.1, e) else x] := by
  rw [List.take_add_one, List.getElem?_modify, hx]
  by_cases h : i = j
  · subst h; simp
  · have : ¬ j = i := fun c => h c.symm
    simp [h, this]
set_option maxRecDepth 100000 in
set_option maxHeartbeats 4000000 in
theorem rwith_any {w : World} {r : Nat} {v : Value} {l : List (Key × Ent)} (h : RAt w r v l) (hl : l.length ≤ 2097152) (i : Nat) (e : Ent) : Calls Try.prog 98 #[.pointer (some ⟨r, 0, none⟩), .int .i64 (i : Int), .agg e.L.toArray] w fun en w' => en = .returned (.tuple #[]) ∧ RNew w w' r (l.modify i fun y => (y.1, e)) := by
  have hm : Mod no w (w.alloc (.cells e.L.toArray 56)) := (Mod.refl no w).alloc _
  have hrl := h.1.lt
  have HA := Lib.hid (And.intro (show RAt (w.alloc (.cells e.L.toArray 56)) r v l from ⟨h.1.mod hm (fun c => c), h.2.mod hm (fun _ _ c => c)⟩) (And.intro (And.intro hm (Blk.new w 56 e.L.toArray)) (And.intro hl hrl)))
  clear h hm hl hrl
  obtain ⟨L, hL⟩ : ∃ L, L = l.modify i fun y => (y.1, e) := ⟨_, rfl⟩
  rw [← hL]
  have HLL := Lib.hid hL
  have hlen : L.length = l.length := by rw [hL, List.length_modify]
  have HLN := Lib.hid hlen
  clear hL hlen
  go_enter Try.func98, Try.ntmps98
  go_upto_region 3 with fail
  obtain ⟨w4, hw4⟩ : ∃ w4, w4 = w.alloc (.cells e.L.toArray 56) := ⟨_, rfl⟩
  rw [← hw4] at HA ⊢
  clear hw4
  obtain ⟨h0, hh0⟩ : ∃ h0, h0 = w.heap.size := ⟨_, rfl⟩
  have HH := Lib.hid hh0
  rw [← hh0] at HA ⊢
  clear hh0
  obtain ⟨A, c, rfl, hrd⟩ := HA.out.1.2
  have HR := Lib.hid hrd
  clear hrd
  obtain ⟨w40, hw40⟩ : ∃ w40, w40 = w4.heap.size := ⟨_, rfl⟩
  have HW4 := Lib.hid (Nat.le_of_eq hw40.symm)
  have HW4' := Lib.hid (Nat.le_of_eq hw40)
  clear hw40
  go_loopw [6, 7] (fun v8 v9 w' => ∃ j : Nat, j ≤ l.length ∧ v9 = .int .i64 (j : Int) ∧ KvRow w' w40 v8 (L.take j) ∧ Mod no w4 w') (fun _ v9 _ => l.length - (intOf v9).toNat)
  case atStart => exact ⟨0, Nat.zero_le _, rfl, KvRow.nil _ _, Mod.refl _ _⟩
  case round =>
    obtain ⟨j, hj, rfl, hrow, hm⟩ := hrel
    have HJ := Lib.hid (And.intro hrow (And.intro hm (And.intro (HA.out.1.1.mod hm (fun c => c)) (show (L.take j).length ≤ 2097152 by
      rw [List.length_take]
      have := HA.out.2.2.1
      omega))))
    clear hrow hm
    by_cases hlt : j < l.length
    · obtain ⟨x, hx⟩ : ∃ x, l[j]? = some x := ⟨_, List.getElem?_eq_getElem hlt⟩
      obtain ⟨b, o, rfl, hr⟩ := HR.out j x hx
      have d2 : decide ((j : Int) < (l.length : Int)) = true := decide_eq_true (by omega)
      have HM := Lib.hid (show l.length - ((j : Int) + 1).toNat < l.length - ((j : Int)).toNat by omega)
      have HI := Lib.hid (And.intro hlt (And.intro (range_mod hr HJ.out.2.1 (fun c => c)) (blk_range (HA.out.2.1.2.mod HJ.out.2.1 (fun c => c)))))
      have htk : L.take (j + 1) = L.take j ++ [if j = i then (x.1, e) else x] := by rw [HLL.out]; exact set_snoc hx
      have HR4 := Lib.hid hr
      clear hr hj hlt hx
      go_upto_region 3 with fail
      refine HD.wl_begin ?_
      refine HD.wl_takeF (d := some 8) (v := (.int .i64 (j : Int))) (by kernel_rfl) rfl rfl (y_move rfl rfl) ?_
      refine HD.wl_takeF (d := some 9) (v := (.pointer (some ⟨r, 0, none⟩))) (by kernel_rfl) rfl rfl (y_move rfl rfl) ?_
      refine HD.wl_takeF (d := some 10) (v := (.pointer (some ⟨r, 0, none⟩))) (a' := ⟨List.toArray ((.pointer (some ⟨r, 0, none⟩))::(.int .i64 (i : Int))::(.agg e.L.toArray)::undef::undef::(.pointer (some ⟨h0, 0, none⟩))::u6::(.int .i64 (j : Int))::(.int .i64 (j : Int))::(.pointer (some ⟨r, 0, none⟩))::(.pointer (some ⟨r, 0, none⟩))::u11::u12::u13::u14::u15::u16::u17::u18::u19::u20::u21::u22::u23::u24::u25::u26::u27::u28::u29::u30::u31::u32::u33::u34::u35::u36::u37::u38::u39::u40::u41::u42::undef::undef::undef::undef::[]), []⟩) (by kernel_rfl) rfl (by kernel_rfl) (y_nil rfl rfl) ?_
      refine HD.wl_takeF (d := some 11) (v := (.pointer (some ⟨r, 0, none⟩))) (by kernel_rfl) rfl rfl (y_fri rfl rfl) ?_
      refine HD.wl_takeF (d := some 12) (v := (.slice (some ⟨b, o, none⟩) l.length c)) (by kernel_rfl) rfl rfl (y_ldkv rfl rfl (HJ.out.2.2.1.cell 0)) ?_
      refine HD.wl_takeF (d := some 13) (v := (.int .i64 (l.length : Int))) (a' := ⟨List.toArray ((.pointer (some ⟨r, 0, none⟩))::(.int .i64 (i : Int))::(.agg e.L.toArray)::undef::undef::(.pointer (some ⟨h0, 0, none⟩))::u6::(.int .i64 (j : Int))::(.int .i64 (j : Int))::(.pointer (some ⟨r, 0, none⟩))::(.pointer (some ⟨r, 0, none⟩))::(.pointer (some ⟨r, 0, none⟩))::(.slice (some ⟨b, o, none⟩) l.length c)::(.int .i64 (l.length : Int))::u14::u15::u16::u17::u18::u19::u20::u21::u22::u23::u24::u25::u26::u27::u28::u29::u30::u31::u32::u33::u34::u35::u36::u37::u38::u39::u40::u41::u42::undef::undef::undef::undef::[]), []⟩) (by kernel_rfl) rfl (by kernel_rfl) (y_lenkv rfl rfl) ?_
      refine HD.wl_takeF (d := some 14) (v := (.bool true)) (a' := ⟨List.toArray ((.pointer (some ⟨r, 0, none⟩))::(.int .i64 (i : Int))::(.agg e.L.toArray)::undef::undef::(.pointer (some ⟨h0, 0, none⟩))::u6::(.int .i64 (j : Int))::(.int .i64 (j : Int))::(.pointer (some ⟨r, 0, none⟩))::(.pointer (some ⟨r, 0, none⟩))::(.pointer (some ⟨r, 0, none⟩))::(.slice (some ⟨b, o, none⟩) l.length c)::(.int .i64 (l.length : Int))::(.bool true)::u15::u16::u17::u18::u19::u20::u21::u22::u23::u24::u25::u26::u27::u28::u29::u30::u31::u32::u33::u34::u35::u36::u37::u38::u39::u40::u41::u42::undef::undef::undef::undef::[]), []⟩) (by kernel_rfl) rfl (by kernel_rfl) (y_lssi d2 rfl rfl rfl) ?_
      refine HD.wl_done ?_
      by_cases hja : j = i
      · have d3 : decide ((j : Int) = (i : Int)) = true := decide_eq_true (by rw [hja])
        rw [if_pos hja] at htk
        go_upto_region 5 with fail
        refine HD.wl_begin ?_
        refine HD.wl_takeF (d := some 17) (v := (.int .i64 (j : Int))) (by kernel_rfl) rfl rfl (y_move rfl rfl) ?_
        refine HD.wl_takeF (d := some 18) (v := (.int .i64 (i : Int))) (by kernel_rfl) rfl rfl (y_move rfl rfl) ?_
        refine HD.wl_takeF (d := some 19) (v := (.bool true)) (a' := ⟨List.toArray ((.pointer (some ⟨r, 0, none⟩))::(.int .i64 (i : Int))::(.agg e.L.toArray)::undef::undef::(.pointer (some ⟨h0, 0, none⟩))::u6::(.int .i64 (j : Int))::(.int .i64 (j : Int))::(.pointer (some ⟨r, 0, none⟩))::(.pointer (some ⟨r, 0, none⟩))::(.pointer (some ⟨r, 0, none⟩))::(.slice (some ⟨b, o, none⟩) l.length c)::(.int .i64 (l.length : Int))::(.bool true)::u15::u16::(.int .i64 (j : Int))::(.int .i64 (i : Int))::(.bool true)::u20::u21::u22::u23::u24::u25::u26::u27::u28::u29::u30::u31::u32::u33::u34::u35::u36::u37::u38::u39::u40::u41::u42::undef::undef::undef::undef::[]), []⟩) (by kernel_rfl) rfl (by kernel_rfl) (y_eqi d3 rfl rfl rfl) ?_
        refine HD.wl_done ?_
        go_upto_region 6 with fail
        refine wp_region_held_drew (S := fun w9 => w9.rangeAt b (o + j * 36) (pairL x) ∧ w9.rangeAt h0 0 e.L ∧ Blk w9 r 79 #[.slice (some ⟨b, o, none⟩) l.length c]) (by kernel_rfl) ⟨HI.out.2.1, HI.out.2.2, HJ.out.2.2.1.drew⟩ (fun hHeld => ?_)
        refine takeD (i := 0) (d := some 20) (v := (u6)) rfl (by kernel_rfl) (by kernel_rfl) (by kernel_rfl) rfl (fun _ _ _ h => h) (Or.inl ⟨by kernel_rfl, fun w9 hw => y_move rfl rfl⟩) hHeld ?_
        simp only [Act.put, List.setIfInBounds_toArray, List.set_cons_zero, List.set_cons_succ]
        refine takeD (i := 1) (d := some 21) (v := (.pointer (some ⟨r, 0, none⟩))) rfl (by kernel_rfl) (by kernel_rfl) (by kernel_rfl) rfl (fun _ _ _ h => h) (Or.inl ⟨by kernel_rfl, fun w9 hw => y_move rfl rfl⟩) hHeld ?_
        simp only [Act.put, List.setIfInBounds_toArray, List.set_cons_zero, List.set_cons_succ]
        refine takeD (i := 2) (d := some 22) (v := (.pointer (some ⟨r, 0, none⟩))) rfl (by kernel_rfl) (by kernel_rfl) (by kernel_rfl) rfl (fun _ _ _ h => h) (Or.inl ⟨by kernel_rfl, fun w9 hw => y_nil rfl rfl⟩) hHeld ?_
        simp only [Act.put, List.setIfInBounds_toArray, List.set_cons_zero, List.set_cons_succ]
        refine takeD (i := 3) (d := some 23) (v := (.pointer (some ⟨r, 0, none⟩))) rfl (by kernel_rfl) (by kernel_rfl) (by kernel_rfl) rfl (fun _ _ _ h => h) (Or.inl ⟨by kernel_rfl, fun w9 hw => y_fri rfl rfl⟩) hHeld ?_
        simp only [Act.put, List.setIfInBounds_toArray, List.set_cons_zero, List.set_cons_succ]
        refine takeD (i := 4) (d := some 24) (v := (.slice (some ⟨b, o, none⟩) l.length c)) rfl (by kernel_rfl) (by kernel_rfl) (by kernel_rfl) rfl (fun _ _ _ h => h) (Or.inl ⟨by kernel_rfl, fun w9 hw => y_ldkv rfl rfl (hw.2.2.cell 0)⟩) hHeld ?_
        simp only [Act.put, List.setIfInBounds_toArray, List.set_cons_zero, List.set_cons_succ]
        refine takeD (i := 5) (d := some 25) (v := (.int .i64 (j : Int))) rfl (by kernel_rfl) (by kernel_rfl) (by kernel_rfl) rfl (fun _ _ _ h => h) (Or.inl ⟨by kernel_rfl, fun w9 hw => y_move rfl rfl⟩) hHeld ?_
        simp only [Act.put, List.setIfInBounds_toArray, List.set_cons_zero, List.set_cons_succ]
        refine takeD (i := 6) (d := some 26) (v := (.pointer (some ⟨b, o + j * 36, none⟩))) rfl (by kernel_rfl) (by kernel_rfl) (by kernel_rfl) rfl (fun _ _ _ h => h) (Or.inl ⟨by kernel_rfl, fun w9 hw => y_ixkv rfl rfl rfl HI.out.1⟩) hHeld ?_
        simp only [Act.put, List.setIfInBounds_toArray, List.set_cons_zero, List.set_cons_succ]
        refine takeD (i := 7) (d := some 27) (v := (.pointer (some ⟨b, o + j * 36, none⟩))) rfl (by kernel_rfl) (by kernel_rfl) (by kernel_rfl) rfl (fun _ _ _ h => h) (Or.inl ⟨by kernel_rfl, fun w9 hw => y_fk0 rfl rfl⟩) hHeld ?_
        simp only [Act.put, List.setIfInBounds_toArray, List.set_cons_zero, List.set_cons_succ]
        refine takeD (i := 8) (d := some 28) (v := (.agg x.1.L.toArray)) rfl (by kernel_rfl) (by kernel_rfl) (by kernel_rfl) rfl (fun _ _ _ h => h) (Or.inl ⟨by kernel_rfl, fun w9 hw => y_key rfl rfl (pair_key hw.1).1⟩) hHeld ?_
        simp only [Act.put, List.setIfInBounds_toArray, List.set_cons_zero, List.set_cons_succ]
        refine takeD (i := 9) (d := some 29) (v := (.agg e.L.toArray)) rfl (by kernel_rfl) (by kernel_rfl) (by kernel_rfl) rfl (fun _ _ _ h => h) (Or.inl ⟨by kernel_rfl, fun w9 hw => y_ent rfl rfl hw.2.1⟩) hHeld ?_
        simp only [Act.put, List.setIfInBounds_toArray, List.set_cons_zero, List.set_cons_succ]
        refine takeD (i := 10) (d := some 30) (v := (.agg (pairL (x.1, e)).toArray)) rfl (by kernel_rfl) (by kernel_rfl) (by kernel_rfl) rfl (fun _ _ _ h => h) (Or.inl ⟨by kernel_rfl, fun w9 hw => y_keyedp rfl rfl rfl⟩) hHeld ?_
        simp only [Act.put, List.setIfInBounds_toArray, List.set_cons_zero, List.set_cons_succ]
        obtain ⟨h16, hh16⟩ : ∃ h16, h16 = wr.drew.heap.size := ⟨_, rfl⟩
        refine readyD (i := 11) (d := some 31) rfl (by kernel_rfl) rfl (by kernel_rfl) fun K hK => ?_
        refine op_yield (y_kvslice (x := (x.1, e)) rfl rfl) ?_
        have mA : Mod no wr.drew (wr.drew.alloc (.cells (pairL (x.1, e)).toArray 58)) := (Mod.refl no _).alloc _
        have hb16 : Blk (wr.drew.alloc (.cells (pairL (x.1, e)).toArray 58)) h16 58 (pairL (x.1, e)).toArray := by rw [hh16]; exact Blk.new _ _ _
        refine hK _ _ ⟨range_mod hHeld.1 mA (fun c => c), range_mod hHeld.2.1 mA (fun c => c), hHeld.2.2.mod mA (fun c => c)⟩ fun hHeld9 => ?_
        clear hK K hHeld
        have hHeld := hHeld9
        clear hHeld9
        simp only [Act.put, List.setIfInBounds_toArray, List.set_cons_zero, List.set_cons_succ]
        have hown := (show KvRow wr.drew w40 u6 (L.take j) from HJ.out.1).mod mA (fun _ _ c => c)
        obtain ⟨v8, w6, hrun, q1, q2, _⟩ := kv_append (wr.drew.alloc (.cells (pairL (x.1, e)).toArray 58)) 77 hown hb16 (by have := HJ.out.2.2.2; omega) (by have h1 := HJ.out.2.1.size; have h2 := HW4'.out; have h3 := mA.size; have h4 : wr.drew.heap.size = wr.heap.size := rfl; omega)
        have HP := Lib.hid (And.intro q1 (kv_mod (w0 := w4) hown q2 HW4.out ((HJ.out.2.1.drew).and_then mA)))
        have mG : Mod (fun k => u6.ownBlock = some k) (wr.drew.alloc (.cells (pairL (x.1, e)).toArray 58)) w6 := Mod.of_grown q2 (fun _ _ e => e)
        have hfar : ∀ k, u6.ownBlock = some k → w40 ≤ k := fun k ek => (hown.own ek).1
        subst hh16
        refine readyD (i := 12) (d := some 32) rfl (by kernel_rfl) rfl (by kernel_rfl) fun K hK => ?_
        refine op_yield (y_kvapp rfl rfl rfl hrun) ?_
        refine hK _ _ ?hS6 fun hHeld9 => ?_
        case hS6 =>
          have hm4 : Mod no w4 w6 := HP.out.2
          refine ⟨?_, ?_, ?_⟩
          · exact range_mod HR4.out hm4 (fun c => c)
          · exact blk_range (HA.out.2.1.2.mod hm4 (fun c => c))
          · exact HA.out.1.1.mod hm4 (fun c => c)
        clear hK K hHeld
        have hHeld := hHeld9
        clear hHeld9
        simp only [Act.put, List.setIfInBounds_toArray, List.set_cons_zero, List.set_cons_succ]
        refine takeD (i := 13) (d := some 6) (v := (v8)) rfl (by kernel_rfl) (by kernel_rfl) (by kernel_rfl) rfl (fun _ _ _ h => h) (Or.inl ⟨by kernel_rfl, fun w9 hw => y_assign rfl rfl⟩) hHeld ?_
        simp only [Act.put, List.setIfInBounds_toArray, List.set_cons_zero, List.set_cons_succ]
        refine wpAnyH_done (by kernel_rfl) ?_ _
        go_upto_region 4 with fail
        refine HD.wl_begin ?_
        refine HD.wl_takeF (d := some 15) (v := (.int .i64 (j : Int))) (by kernel_rfl) rfl rfl (y_move rfl rfl) ?_
        refine HD.wl_takeF (d := some 16) (v := (.int .i64 ((j : Int) + 1))) (by kernel_rfl) rfl rfl (y_addi (by have := HI.out.1; have := HA.out.2.2.1; omega) rfl rfl rfl) ?_
        refine HD.wl_takeF (d := some 7) (v := (.int .i64 ((j : Int) + 1))) (a' := ⟨List.toArray ((.pointer (some ⟨r, 0, none⟩))::(.int .i64 (i : Int))::(.agg e.L.toArray)::undef::undef::(.pointer (some ⟨h0, 0, none⟩))::(v8)::(.int .i64 ((j : Int) + 1))::(.int .i64 (j : Int))::(.pointer (some ⟨r, 0, none⟩))::(.pointer (some ⟨r, 0, none⟩))::(.pointer (some ⟨r, 0, none⟩))::(.slice (some ⟨b, o, none⟩) l.length c)::(.int .i64 (l.length : Int))::(.bool true)::(.int .i64 (j : Int))::(.int .i64 ((j : Int) + 1))::(.int .i64 (j : Int))::(.int .i64 (i : Int))::(.bool true)::(u6)::(.pointer (some ⟨r, 0, none⟩))::(.pointer (some ⟨r, 0, none⟩))::(.pointer (some ⟨r, 0, none⟩))::(.slice (some ⟨b, o, none⟩) l.length c)::(.int .i64 (j : Int))::(.pointer (some ⟨b, o + j * 36, none⟩))::(.pointer (some ⟨b, o + j * 36, none⟩))::(.agg x.1.L.toArray)::(.agg e.L.toArray)::(.agg (pairL (x.1, e)).toArray)::(.slice (some ⟨wr.drew.heap.size, 0, none⟩) 1 1)::(v8)::u33::u34::u35::u36::u37::u38::u39::u40::u41::u42::undef::undef::undef::undef::[]), []⟩) (by kernel_rfl) rfl (by kernel_rfl) (y_assign rfl rfl) ?_
        refine HD.wl_done ?_
        exact ⟨⟨_, _, _, _, _, _, _, _, _, _, _, _, _, _, _, _, _, _, _, _, _, _, _, _, _, _, _, _, _, _, _, _, _, _, _, _, _, ⟨j + 1, HI.out.1, rfl, by rw [htk]; exact HP.out.1, HP.out.2⟩, rfl⟩, HM.out⟩
      · have d3 : decide ((j : Int) = (i : Int)) = false := decide_eq_false (by omega)
        rw [if_neg hja] at htk
        go_upto_region 5 with fail
        refine HD.wl_begin ?_
        refine HD.wl_takeF (d := some 17) (v := (.int .i64 (j : Int))) (by kernel_rfl) rfl rfl (y_move rfl rfl) ?_
        refine HD.wl_takeF (d := some 18) (v := (.int .i64 (i : Int))) (by kernel_rfl) rfl rfl (y_move rfl rfl) ?_
        refine HD.wl_takeF (d := some 19) (v := (.bool false)) (a' := ⟨List.toArray ((.pointer (some ⟨r, 0, none⟩))::(.int .i64 (i : Int))::(.agg e.L.toArray)::undef::undef::(.pointer (some ⟨h0, 0, none⟩))::u6::(.int .i64 (j : Int))::(.int .i64 (j : Int))::(.pointer (some ⟨r, 0, none⟩))::(.pointer (some ⟨r, 0, none⟩))::(.pointer (some ⟨r, 0, none⟩))::(.slice (some ⟨b, o, none⟩) l.length c)::(.int .i64 (l.length : Int))::(.bool true)::u15::u16::(.int .i64 (j : Int))::(.int .i64 (i : Int))::(.bool false)::u20::u21::u22::u23::u24::u25::u26::u27::u28::u29::u30::u31::u32::u33::u34::u35::u36::u37::u38::u39::u40::u41::u42::undef::undef::undef::undef::[]), []⟩) (by kernel_rfl) rfl (by kernel_rfl) (y_eqi d3 rfl rfl rfl) ?_
        refine HD.wl_done ?_
        go_upto_region 7 with fail
        refine HD.wl_begin ?_
        refine HD.wl_takeF (d := some 33) (v := (u6)) (by kernel_rfl) rfl rfl (y_move rfl rfl) ?_
        refine HD.wl_takeF (d := some 34) (v := (.pointer (some ⟨r, 0, none⟩))) (by kernel_rfl) rfl rfl (y_move rfl rfl) ?_
        refine HD.wl_takeF (d := some 35) (v := (.pointer (some ⟨r, 0, none⟩))) (a' := ⟨List.toArray ((.pointer (some ⟨r, 0, none⟩))::(.int .i64 (i : Int))::(.agg e.L.toArray)::undef::undef::(.pointer (some ⟨h0, 0, none⟩))::u6::(.int .i64 (j : Int))::(.int .i64 (j : Int))::(.pointer (some ⟨r, 0, none⟩))::(.pointer (some ⟨r, 0, none⟩))::(.pointer (some ⟨r, 0, none⟩))::(.slice (some ⟨b, o, none⟩) l.length c)::(.int .i64 (l.length : Int))::(.bool true)::u15::u16::(.int .i64 (j : Int))::(.int .i64 (i : Int))::(.bool false)::u20::u21::u22::u23::u24::u25::u26::u27::u28::u29::u30::u31::u32::(u6)::(.pointer (some ⟨r, 0, none⟩))::(.pointer (some ⟨r, 0, none⟩))::u36::u37::u38::u39::u40::u41::u42::undef::undef::undef::undef::[]), []⟩) (by kernel_rfl) rfl (by kernel_rfl) (y_nil rfl rfl) ?_
        refine HD.wl_takeF (d := some 36) (v := (.pointer (some ⟨r, 0, none⟩))) (by kernel_rfl) rfl rfl (y_fri rfl rfl) ?_
        refine HD.wl_takeF (d := some 37) (v := (.slice (some ⟨b, o, none⟩) l.length c)) (by kernel_rfl) rfl rfl (y_ldkv rfl rfl (HJ.out.2.2.1.cell 0)) ?_
        refine HD.wl_takeF (d := some 38) (v := (.int .i64 (j : Int))) (a' := ⟨List.toArray ((.pointer (some ⟨r, 0, none⟩))::(.int .i64 (i : Int))::(.agg e.L.toArray)::undef::undef::(.pointer (some ⟨h0, 0, none⟩))::u6::(.int .i64 (j : Int))::(.int .i64 (j : Int))::(.pointer (some ⟨r, 0, none⟩))::(.pointer (some ⟨r, 0, none⟩))::(.pointer (some ⟨r, 0, none⟩))::(.slice (some ⟨b, o, none⟩) l.length c)::(.int .i64 (l.length : Int))::(.bool true)::u15::u16::(.int .i64 (j : Int))::(.int .i64 (i : Int))::(.bool false)::u20::u21::u22::u23::u24::u25::u26::u27::u28::u29::u30::u31::u32::(u6)::(.pointer (some ⟨r, 0, none⟩))::(.pointer (some ⟨r, 0, none⟩))::(.pointer (some ⟨r, 0, none⟩))::(.slice (some ⟨b, o, none⟩) l.length c)::(.int .i64 (j : Int))::u39::u40::u41::u42::undef::undef::undef::undef::[]), []⟩) (by kernel_rfl) rfl (by kernel_rfl) (y_move rfl rfl) ?_
        refine HD.wl_takeF (d := some 39) (v := (.pointer (some ⟨b, o + j * 36, none⟩))) (by kernel_rfl) rfl rfl (y_ixkv rfl rfl rfl HI.out.1) ?_
        refine HD.wl_takeF (d := some 40) (v := (.agg (pairL x).toArray)) (a' := ⟨List.toArray ((.pointer (some ⟨r, 0, none⟩))::(.int .i64 (i : Int))::(.agg e.L.toArray)::undef::undef::(.pointer (some ⟨h0, 0, none⟩))::u6::(.int .i64 (j : Int))::(.int .i64 (j : Int))::(.pointer (some ⟨r, 0, none⟩))::(.pointer (some ⟨r, 0, none⟩))::(.pointer (some ⟨r, 0, none⟩))::(.slice (some ⟨b, o, none⟩) l.length c)::(.int .i64 (l.length : Int))::(.bool true)::u15::u16::(.int .i64 (j : Int))::(.int .i64 (i : Int))::(.bool false)::u20::u21::u22::u23::u24::u25::u26::u27::u28::u29::u30::u31::u32::(u6)::(.pointer (some ⟨r, 0, none⟩))::(.pointer (some ⟨r, 0, none⟩))::(.pointer (some ⟨r, 0, none⟩))::(.slice (some ⟨b, o, none⟩) l.length c)::(.int .i64 (j : Int))::(.pointer (some ⟨b, o + j * 36, none⟩))::(.agg (pairL x).toArray)::u41::u42::undef::undef::undef::undef::[]), []⟩) (by kernel_rfl) rfl (by kernel_rfl) (y_pairkv rfl rfl HI.out.2.1) ?_
        obtain ⟨h16, hh16⟩ : ∃ h16, h16 = wr.heap.size := ⟨_, rfl⟩
        refine HD.wl_takeF (d := some 41) (v := (.slice (some ⟨h16, 0, none⟩) 1 1)) (a' := ⟨List.toArray ((.pointer (some ⟨r, 0, none⟩))::(.int .i64 (i : Int))::(.agg e.L.toArray)::undef::undef::(.pointer (some ⟨h0, 0, none⟩))::u6::(.int .i64 (j : Int))::(.int .i64 (j : Int))::(.pointer (some ⟨r, 0, none⟩))::(.pointer (some ⟨r, 0, none⟩))::(.pointer (some ⟨r, 0, none⟩))::(.slice (some ⟨b, o, none⟩) l.length c)::(.int .i64 (l.length : Int))::(.bool true)::u15::u16::(.int .i64 (j : Int))::(.int .i64 (i : Int))::(.bool false)::u20::u21::u22::u23::u24::u25::u26::u27::u28::u29::u30::u31::u32::(u6)::(.pointer (some ⟨r, 0, none⟩))::(.pointer (some ⟨r, 0, none⟩))::(.pointer (some ⟨r, 0, none⟩))::(.slice (some ⟨b, o, none⟩) l.length c)::(.int .i64 (j : Int))::(.pointer (some ⟨b, o + j * 36, none⟩))::(.agg (pairL x).toArray)::(.slice (some ⟨h16, 0, none⟩) 1 1)::u42::undef::undef::undef::undef::[]), []⟩) (by kernel_rfl) rfl (by kernel_rfl) (by rw [hh16]; exact y_kvslice (x := x) rfl rfl) ?_
        have mA : Mod no wr (wr.alloc (.cells (pairL x).toArray 58)) := (Mod.refl no wr).alloc _
        have hb16 : Blk (wr.alloc (.cells (pairL x).toArray 58)) h16 58 (pairL x).toArray := by rw [hh16]; exact Blk.new _ _ _
        refine wl_kvapp (d := some 42) (fun v' => ⟨List.toArray ((.pointer (some ⟨r, 0, none⟩))::(.int .i64 (i : Int))::(.agg e.L.toArray)::undef::undef::(.pointer (some ⟨h0, 0, none⟩))::u6::(.int .i64 (j : Int))::(.int .i64 (j : Int))::(.pointer (some ⟨r, 0, none⟩))::(.pointer (some ⟨r, 0, none⟩))::(.pointer (some ⟨r, 0, none⟩))::(.slice (some ⟨b, o, none⟩) l.length c)::(.int .i64 (l.length : Int))::(.bool true)::u15::u16::(.int .i64 (j : Int))::(.int .i64 (i : Int))::(.bool false)::u20::u21::u22::u23::u24::u25::u26::u27::u28::u29::u30::u31::u32::(u6)::(.pointer (some ⟨r, 0, none⟩))::(.pointer (some ⟨r, 0, none⟩))::(.pointer (some ⟨r, 0, none⟩))::(.slice (some ⟨b, o, none⟩) l.length c)::(.int .i64 (j : Int))::(.pointer (some ⟨b, o + j * 36, none⟩))::(.agg (pairL x).toArray)::(.slice (some ⟨h16, 0, none⟩) 1 1)::(v')::undef::undef::undef::undef::[]), []⟩) rfl rfl rfl (fun _ => by kernel_rfl) w40 h16 u6 (L.take j) x rfl rfl (HJ.out.1.mod mA (fun _ _ c => c)) hb16 HJ.out.2.2.2 (by have h1 := HJ.out.2.1.size; have h2 := HW4'.out; have h3 := mA.size; omega) ?_
        intro v8 w6 q1 q2 _
        have HP := Lib.hid (And.intro q1 (kv_mod (w0 := w4) (HJ.out.1.mod mA (fun _ _ c => c)) q2 HW4.out (HJ.out.2.1.and_then mA)))
        clear q1 q2 hb16 mA hh16
        refine HD.wl_takeF (d := some 6) (v := (v8)) (a' := ⟨List.toArray ((.pointer (some ⟨r, 0, none⟩))::(.int .i64 (i : Int))::(.agg e.L.toArray)::undef::undef::(.pointer (some ⟨h0, 0, none⟩))::(v8)::(.int .i64 (j : Int))::(.int .i64 (j : Int))::(.pointer (some ⟨r, 0, none⟩))::(.pointer (some ⟨r, 0, none⟩))::(.pointer (some ⟨r, 0, none⟩))::(.slice (some ⟨b, o, none⟩) l.length c)::(.int .i64 (l.length : Int))::(.bool true)::u15::u16::(.int .i64 (j : Int))::(.int .i64 (i : Int))::(.bool false)::u20::u21::u22::u23::u24::u25::u26::u27::u28::u29::u30::u31::u32::(u6)::(.pointer (some ⟨r, 0, none⟩))::(.pointer (some ⟨r, 0, none⟩))::(.pointer (some ⟨r, 0, none⟩))::(.slice (some ⟨b, o, none⟩) l.length c)::(.int .i64 (j : Int))::(.pointer (some ⟨b, o + j * 36, none⟩))::(.agg (pairL x).toArray)::(.slice (some ⟨h16, 0, none⟩) 1 1)::(v8)::undef::undef::undef::undef::[]), []⟩) (by kernel_rfl) rfl (by kernel_rfl) (y_assign rfl rfl) ?_
        refine HD.wl_done ?_
        go_upto_region 4 with fail
        refine HD.wl_begin ?_
        refine HD.wl_takeF (d := some 15) (v := (.int .i64 (j : Int))) (by kernel_rfl) rfl rfl (y_move rfl rfl) ?_
        refine HD.wl_takeF (d := some 16) (v := (.int .i64 ((j : Int) + 1))) (by kernel_rfl) rfl rfl (y_addi (by have := HI.out.1; have := HA.out.2.2.1; omega) rfl rfl rfl) ?_
        refine HD.wl_takeF (d := some 7) (v := (.int .i64 ((j : Int) + 1))) (a' := ⟨List.toArray ((.pointer (some ⟨r, 0, none⟩))::(.int .i64 (i : Int))::(.agg e.L.toArray)::undef::undef::(.pointer (some ⟨h0, 0, none⟩))::(v8)::(.int .i64 ((j : Int) + 1))::(.int .i64 (j : Int))::(.pointer (some ⟨r, 0, none⟩))::(.pointer (some ⟨r, 0, none⟩))::(.pointer (some ⟨r, 0, none⟩))::(.slice (some ⟨b, o, none⟩) l.length c)::(.int .i64 (l.length : Int))::(.bool true)::(.int .i64 (j : Int))::(.int .i64 ((j : Int) + 1))::(.int .i64 (j : Int))::(.int .i64 (i : Int))::(.bool false)::u20::u21::u22::u23::u24::u25::u26::u27::u28::u29::u30::u31::u32::(u6)::(.pointer (some ⟨r, 0, none⟩))::(.pointer (some ⟨r, 0, none⟩))::(.pointer (some ⟨r, 0, none⟩))::(.slice (some ⟨b, o, none⟩) l.length c)::(.int .i64 (j : Int))::(.pointer (some ⟨b, o + j * 36, none⟩))::(.agg (pairL x).toArray)::(.slice (some ⟨h16, 0, none⟩) 1 1)::(v8)::undef::undef::undef::undef::[]), []⟩) (by kernel_rfl) rfl (by kernel_rfl) (y_assign rfl rfl) ?_
        refine HD.wl_done ?_
        exact ⟨⟨_, _, _, _, _, _, _, _, _, _, _, _, _, _, _, _, _, _, _, _, _, _, _, _, _, _, _, _, _, _, _, _, _, _, _, _, _, ⟨j + 1, HI.out.1, rfl, by rw [htk]; exact HP.out.1, HP.out.2⟩, rfl⟩, HM.out⟩
    · obtain rfl : j = l.length := by omega
      have d2 : decide ((l.length : Int) < (l.length : Int)) = false := decide_eq_false (by omega)
      clear hlt hj
      go_upto_region 3 with fail
      refine HD.wl_begin ?_
      refine HD.wl_takeF (d := some 8) (v := (.int .i64 (l.length : Int))) (by kernel_rfl) rfl rfl (y_move rfl rfl) ?_
      refine HD.wl_takeF (d := some 9) (v := (.pointer (some ⟨r, 0, none⟩))) (by kernel_rfl) rfl rfl (y_move rfl rfl) ?_
      refine HD.wl_takeF (d := some 10) (v := (.pointer (some ⟨r, 0, none⟩))) (a' := ⟨List.toArray ((.pointer (some ⟨r, 0, none⟩))::(.int .i64 (i : Int))::(.agg e.L.toArray)::undef::undef::(.pointer (some ⟨h0, 0, none⟩))::u6::(.int .i64 (l.length : Int))::(.int .i64 (l.length : Int))::(.pointer (some ⟨r, 0, none⟩))::(.pointer (some ⟨r, 0, none⟩))::u11::u12::u13::u14::u15::u16::u17::u18::u19::u20::u21::u22::u23::u24::u25::u26::u27::u28::u29::u30::u31::u32::u33::u34::u35::u36::u37::u38::u39::u40::u41::u42::undef::undef::undef::undef::[]), []⟩) (by kernel_rfl) rfl (by kernel_rfl) (y_nil rfl rfl) ?_
      refine HD.wl_takeF (d := some 11) (v := (.pointer (some ⟨r, 0, none⟩))) (by kernel_rfl) rfl rfl (y_fri rfl rfl) ?_
      refine HD.wl_takeF (d := some 12) (v := (.slice A l.length c)) (by kernel_rfl) rfl rfl (y_ldkv rfl rfl (HJ.out.2.2.1.cell 0)) ?_
      refine HD.wl_takeF (d := some 13) (v := (.int .i64 (l.length : Int))) (a' := ⟨List.toArray ((.pointer (some ⟨r, 0, none⟩))::(.int .i64 (i : Int))::(.agg e.L.toArray)::undef::undef::(.pointer (some ⟨h0, 0, none⟩))::u6::(.int .i64 (l.length : Int))::(.int .i64 (l.length : Int))::(.pointer (some ⟨r, 0, none⟩))::(.pointer (some ⟨r, 0, none⟩))::(.pointer (some ⟨r, 0, none⟩))::(.slice A l.length c)::(.int .i64 (l.length : Int))::u14::u15::u16::u17::u18::u19::u20::u21::u22::u23::u24::u25::u26::u27::u28::u29::u30::u31::u32::u33::u34::u35::u36::u37::u38::u39::u40::u41::u42::undef::undef::undef::undef::[]), []⟩) (by kernel_rfl) rfl (by kernel_rfl) (y_lenkv rfl rfl) ?_
      refine HD.wl_takeF (d := some 14) (v := (.bool false)) (a' := ⟨List.toArray ((.pointer (some ⟨r, 0, none⟩))::(.int .i64 (i : Int))::(.agg e.L.toArray)::undef::undef::(.pointer (some ⟨h0, 0, none⟩))::u6::(.int .i64 (l.length : Int))::(.int .i64 (l.length : Int))::(.pointer (some ⟨r, 0, none⟩))::(.pointer (some ⟨r, 0, none⟩))::(.pointer (some ⟨r, 0, none⟩))::(.slice A l.length c)::(.int .i64 (l.length : Int))::(.bool false)::u15::u16::u17::u18::u19::u20::u21::u22::u23::u24::u25::u26::u27::u28::u29::u30::u31::u32::u33::u34::u35::u36::u37::u38::u39::u40::u41::u42::undef::undef::undef::undef::[]), []⟩) (by kernel_rfl) rfl (by kernel_rfl) (y_lssi d2 rfl rfl rfl) ?_
      refine HD.wl_done ?_
      have hrow := HJ.out.1
      rw [← HLN.out, List.take_length] at hrow
      obtain ⟨A8, c8, hv8⟩ := own_form hrow
      obtain ⟨n8, hn8⟩ : ∃ n8, n8 = L.length := ⟨_, rfl⟩
      rw [← hn8] at hv8
      subst hv8
      clear hn8
      go_upto_region 8 with fail
      refine HD.wl_begin ?_
      refine HD.wl_takeF (d := some 43) (v := (.pointer (some ⟨r, 0, none⟩))) (by kernel_rfl) rfl rfl (y_move rfl rfl) ?_
      refine HD.wl_takeF (d := some 44) (v := (.slice A8 n8 c8)) (by kernel_rfl) rfl rfl (y_move rfl rfl) ?_
      refine HD.wl_takeF (d := some 45) (v := (.pointer (some ⟨r, 0, none⟩))) (a' := ⟨List.toArray ((.pointer (some ⟨r, 0, none⟩))::(.int .i64 (i : Int))::(.agg e.L.toArray)::undef::undef::(.pointer (some ⟨h0, 0, none⟩))::(.slice A8 n8 c8)::(.int .i64 (l.length : Int))::(.int .i64 (l.length : Int))::(.pointer (some ⟨r, 0, none⟩))::(.pointer (some ⟨r, 0, none⟩))::(.pointer (some ⟨r, 0, none⟩))::(.slice A l.length c)::(.int .i64 (l.length : Int))::(.bool false)::u15::u16::u17::u18::u19::u20::u21::u22::u23::u24::u25::u26::u27::u28::u29::u30::u31::u32::u33::u34::u35::u36::u37::u38::u39::u40::u41::u42::(.pointer (some ⟨r, 0, none⟩))::(.slice A8 n8 c8)::(.pointer (some ⟨r, 0, none⟩))::undef::[]), []⟩) (by kernel_rfl) rfl (by kernel_rfl) (y_nil rfl rfl) ?_
      refine HD.wl_takeF (d := some 46) (v := (.pointer (some ⟨r, 0, none⟩))) (a' := ⟨List.toArray ((.pointer (some ⟨r, 0, none⟩))::(.int .i64 (i : Int))::(.agg e.L.toArray)::undef::undef::(.pointer (some ⟨h0, 0, none⟩))::(.slice A8 n8 c8)::(.int .i64 (l.length : Int))::(.int .i64 (l.length : Int))::(.pointer (some ⟨r, 0, none⟩))::(.pointer (some ⟨r, 0, none⟩))::(.pointer (some ⟨r, 0, none⟩))::(.slice A l.length c)::(.int .i64 (l.length : Int))::(.bool false)::u15::u16::u17::u18::u19::u20::u21::u22::u23::u24::u25::u26::u27::u28::u29::u30::u31::u32::u33::u34::u35::u36::u37::u38::u39::u40::u41::u42::(.pointer (some ⟨r, 0, none⟩))::(.slice A8 n8 c8)::(.pointer (some ⟨r, 0, none⟩))::(.pointer (some ⟨r, 0, none⟩))::[]), []⟩) (by kernel_rfl) rfl (by kernel_rfl) (y_fri rfl rfl) ?_
      refine wl_storeS (a' := ⟨List.toArray ((.pointer (some ⟨r, 0, none⟩))::(.int .i64 (i : Int))::(.agg e.L.toArray)::undef::undef::(.pointer (some ⟨h0, 0, none⟩))::(.slice A8 n8 c8)::(.int .i64 (l.length : Int))::(.int .i64 (l.length : Int))::(.pointer (some ⟨r, 0, none⟩))::(.pointer (some ⟨r, 0, none⟩))::(.pointer (some ⟨r, 0, none⟩))::(.slice A l.length c)::(.int .i64 (l.length : Int))::(.bool false)::u15::u16::u17::u18::u19::u20::u21::u22::u23::u24::u25::u26::u27::u28::u29::u30::u31::u32::u33::u34::u35::u36::u37::u38::u39::u40::u41::u42::(.pointer (some ⟨r, 0, none⟩))::(.slice A8 n8 c8)::(.pointer (some ⟨r, 0, none⟩))::(.pointer (some ⟨r, 0, none⟩))::[]), []⟩) rfl r A8 n8 c8 rfl rfl (by kernel_rfl) rfl rfl HJ.out.2.2.1 ?_
      have hsz := HA.out.2.2.2
      have mw : Mod no w wr := HA.out.2.1.1.and_then HJ.out.2.1
      have m5 : Mod (one r) w (wr.setCell ⟨r, 0, none⟩ (.slice A8 n8 c8)) := Mod.set (S := one r) (p := ⟨r, 0, none⟩) (mw.mono (fun _ _ c => c.elim)) (fun _ => rfl) _
      have m5' : Mod (one r) wr (wr.setCell ⟨r, 0, none⟩ (.slice A8 n8 c8)) := Mod.set (S := one r) (p := ⟨r, 0, none⟩) (Mod.refl _ wr) (fun _ => rfl) _
      have b5 : Blk (wr.setCell ⟨r, 0, none⟩ (.slice A8 n8 c8)) r 79 #[.slice A8 n8 c8] := HJ.out.2.2.1.put 0 _
      have hz : w.heap.size ≤ w40 := Nat.le_trans HA.out.2.1.1.size HW4.out
      have k5 : KvRow (wr.setCell ⟨r, 0, none⟩ (.slice A8 n8 c8)) w40 (.slice A8 n8 c8) L := hrow.mod m5' (fun b e c => by have c : b = r := c; have := (hrow.own e).1; have := HH.out; omega)
      have H5 := Lib.hid (And.intro b5 (And.intro (k5.base hz) m5))
      clear m5 m5' b5 k5 hrow mw hz hsz
      refine HD.wl_done ?_
      go_wp2_with fail
      go_end0
      exact ⟨rfl, _, H5.out.1, H5.out.2.1, H5.out.2.2⟩
end Go.Proofs.Ytknbehjhaaidoaa.IX

