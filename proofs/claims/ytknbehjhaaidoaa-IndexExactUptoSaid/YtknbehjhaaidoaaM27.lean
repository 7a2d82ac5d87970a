/- IndexExact: the texts ExD of this seat, one behind the other. -/
import Derived.Test.YtknbehjhaaidoaaM26
/- IndexExact's changes: a change of an index answers as the document's does. -/
namespace Go.Proofs.Ytknbehjhaaidoaa.IX
open Go.RowKit Go.Shelf Mem HD TB
set_option linter.unusedVariables false
set_option linter.unusedSimpArgs false
theorem StAt.old {w w3 w4 : World} {s : Stp} (h : StAt w3 w.heap.size s) (m : Mod (fun x => x < w.heap.size) w3 w4) : StAt w4 w.heap.size s := h.mod m (fun c => absurd c (Nat.lt_irrefl _))
set_option maxRecDepth 100000 in
set_option maxHeartbeats 4000000 in
theorem changes_any {w : World} {p : Value} {r : Nat} {non : Bool} {Fin : World → Prop} (s : Stp) (hc : Chg w p (.pointer (some ⟨r, 0, none⟩)) non Fin) (hn : s.none_ = non) :
    Calls Try.prog 30 #[p, .pointer (some ⟨r, 0, none⟩), .agg s.L.toArray] w fun e w' => e = .returned (.bool true) ∧ Fin w' := by
  have hw : Mod no w (w.alloc (.cells s.L.toArray 73)) := (Mod.refl no w).alloc _
  have HC := Lib.hid hc
  have HN := Lib.hid hn
  obtain ⟨h0, hh0⟩ : ∃ h0, h0 = w.heap.size := ⟨_, rfl⟩
  have HO := Lib.hid (show ∀ w3 w4 : World, StAt w3 h0 s → Mod (fun x => x < w.heap.size) w3 w4 → StAt w4 h0 s from fun w3 w4 h m => by rw [hh0] at h ⊢; exact h.old m)
  have HA := Lib.hid (And.intro hw (show StAt (w.alloc (.cells s.L.toArray 73)) h0 s from by rw [hh0]; exact stAt (blk_range (Blk.new w 73 s.L.toArray))))
  clear hc hn hw
  go_enter Try.func30, Try.ntmps30
  go_upto_region 1 with fail
  obtain ⟨w2, hw2⟩ : ∃ w2, w2 = w.alloc (.cells s.L.toArray 73) := ⟨_, rfl⟩
  rw [← hw2] at HA ⊢
  clear hw2
  rw [← hh0]
  clear hh0
  refine HD.wl_begin ?_
  refine HD.wl_takeF (d := some 11) (v := (.pointer (some ⟨h0, 0, none⟩))) (by kernel_rfl) rfl rfl (y_fst (k := 0) (by decide) rfl (by kernel_rfl)) ?_
  refine HD.wl_takeF (d := some 12) (v := (.int .i64 s.kind)) (by kernel_rfl) rfl rfl (y_int rfl (by kernel_rfl) HA.out.2.kind) ?_
  refine HD.wl_norm (a' := ⟨List.toArray ((p)::(.pointer (some ⟨r, 0, none⟩))::(.agg s.L.toArray)::undef::undef::(.pointer (some ⟨h0, 0, none⟩))::(.bool false)::undef::undef::undef::undef::(.pointer (some ⟨h0, 0, none⟩))::(.int .i64 s.kind)::undef::undef::undef::undef::undef::undef::undef::undef::undef::undef::undef::undef::undef::undef::undef::undef::undef::undef::undef::undef::undef::undef::undef::undef::undef::undef::undef::undef::undef::undef::undef::undef::undef::undef::undef::undef::undef::undef::undef::undef::undef::undef::undef::undef::undef::undef::undef::undef::undef::undef::undef::undef::undef::undef::undef::undef::undef::undef::undef::undef::undef::undef::undef::undef::undef::undef::undef::undef::undef::undef::undef::undef::undef::undef::undef::undef::undef::undef::[]), []⟩) (by kernel_rfl) ?_
  refine HD.wl_done ?_
  by_cases hk : s.kind = 3
  · have d1 : decide (s.kind = 3) = true := decide_eq_true hk
    clear hk
    go_upto_region 2 with fail
    refine HD.wl_begin ?_
    refine HD.wl_takeF (d := some 14) (v := (.bool true)) (by kernel_rfl) rfl rfl (y_eqi (n := 3) d1 rfl (by kernel_rfl) (by kernel_rfl)) ?_
    refine HD.wl_takeF (d := some 13) (v := (.bool true)) (by kernel_rfl) rfl rfl (y_assign rfl (by kernel_rfl)) ?_
    refine HD.wl_norm (a' := ⟨List.toArray ((p)::(.pointer (some ⟨r, 0, none⟩))::(.agg s.L.toArray)::undef::undef::(.pointer (some ⟨h0, 0, none⟩))::(.bool false)::undef::undef::undef::undef::(.pointer (some ⟨h0, 0, none⟩))::(.int .i64 s.kind)::(.bool true)::(.bool true)::undef::undef::undef::undef::undef::undef::undef::undef::undef::undef::undef::undef::undef::undef::undef::undef::undef::undef::undef::undef::undef::undef::undef::undef::undef::undef::undef::undef::undef::undef::undef::undef::undef::undef::undef::undef::undef::undef::undef::undef::undef::undef::undef::undef::undef::undef::undef::undef::undef::undef::undef::undef::undef::undef::undef::undef::undef::undef::undef::undef::undef::undef::undef::undef::undef::undef::undef::undef::undef::undef::undef::undef::undef::undef::undef::undef::[]), []⟩) (by kernel_rfl) ?_
    refine HD.wl_done ?_
    cases non with
    | true =>
      go_upto_region 3 with fail
      refine wp_region_held_drew (S := fun w9 => StAt w9 h0 s) (by kernel_rfl) (show StAt w2.drew h0 s from HA.out.2.mod (Mod.refl no w2).drew (fun c => c)) (fun hHeld => HD.WA.out ?_)
      refine HD.wa_take (i := 0) (d := some 15) (v := (p)) rfl (by kernel_rfl) (by kernel_rfl) (by kernel_rfl) rfl (fun _ _ _ h => h) (Or.inl ⟨by kernel_rfl, fun w9 hw => y_move rfl (by kernel_rfl)⟩) hHeld rfl ?_
      refine HD.wa_take (i := 1) (d := some 16) (v := (.pointer (some ⟨h0, 3, none⟩))) rfl (by kernel_rfl) (by kernel_rfl) (by kernel_rfl) rfl (fun _ _ _ h => h) (Or.inl ⟨by kernel_rfl, fun w9 hw => y_fst (k := 3) (by decide) rfl (by kernel_rfl)⟩) hHeld rfl ?_
      refine HD.wa_take (i := 2) (d := some 17) (v := (.agg s.key.L.toArray)) rfl (by kernel_rfl) (by kernel_rfl) (by kernel_rfl) rfl (fun _ _ _ h => h) (Or.inl ⟨by kernel_rfl, fun w9 hw => y_key rfl (by kernel_rfl) hw.key⟩) hHeld rfl ?_
      refine HD.wa_take (i := 3) (d := some 18) (v := (.pointer (some ⟨h0, 35, none⟩))) rfl (by kernel_rfl) (by kernel_rfl) (by kernel_rfl) rfl (fun _ _ _ h => h) (Or.inl ⟨by kernel_rfl, fun w9 hw => y_fst (k := 4) (by decide) rfl (by kernel_rfl)⟩) hHeld rfl ?_
      refine HD.wa_take (i := 4) (d := some 19) (v := (.agg s.ent.L.toArray)) rfl (by kernel_rfl) (by kernel_rfl) (by kernel_rfl) rfl (fun _ _ _ h => h) (Or.inl ⟨by kernel_rfl, fun w9 hw => y_ent rfl (by kernel_rfl) hw.ent⟩) hHeld rfl ?_
      refine HD.wa_take (i := 6) (d := some 21) (v := (.pointer (some ⟨h0, 2, none⟩))) rfl (by kernel_rfl) (by kernel_rfl) (by kernel_rfl) rfl (fun _ _ _ h => h) (Or.inl ⟨by kernel_rfl, fun w9 hw => y_fst (k := 2) (by decide) rfl (by kernel_rfl)⟩) hHeld rfl ?_
      refine HD.wa_take (i := 7) (d := some 22) (v := (.bool true)) rfl (by kernel_rfl) (by kernel_rfl) (by kernel_rfl) rfl (fun _ _ _ h => h) (Or.inl ⟨by kernel_rfl, fun w9 hw => y_bool rfl (by kernel_rfl) (by have h9 := hw.none_; rw [HN.out] at h9; exact h9) (by kernel_rfl)⟩) hHeld rfl ?_
      refine HD.wa_take (i := 8) (d := some 23) (v := (.bool false)) rfl (by kernel_rfl) (by kernel_rfl) (by kernel_rfl) rfl (fun _ _ _ h => h) (Or.inl ⟨by kernel_rfl, fun w9 hw => y_not (b := true) rfl (by kernel_rfl)⟩) hHeld rfl ?_
      refine HD.wa_callG _ (i := 5) (d := some 20) rfl (by kernel_rfl) rfl (by kernel_rfl) (fun _ => rfl) fun K hK => ?_
      refine op_c3 (fun _ _ => rfl) rfl (by kernel_rfl) (by kernel_rfl) (by kernel_rfl) (HC.out.put _ s.key s.ent HA.out.1.drew) ?_
      rintro e w3 ⟨b, rfl, ho, hn1, _⟩
      obtain ⟨rfl, hf⟩ := hn1 rfl
      have H4 := Lib.hid hf
      clear hf hn1
      refine ⟨_, rfl, hK _ _ (HO.out _ _ hHeld ho) fun hHeld9 => ?_⟩
      clear hK K hHeld
      have hHeld := hHeld9
      clear hHeld9
      clear ho
      refine HD.wa_take (i := 9) (d := some 24) (v := (.bool false)) rfl (by kernel_rfl) (by kernel_rfl) (by kernel_rfl) rfl (fun _ _ _ h => h) (Or.inl ⟨by kernel_rfl, fun w9 hw => y_move rfl (by kernel_rfl)⟩) hHeld rfl ?_
      refine HD.wa_take (i := 10) (d := some 25) (v := (undef)) rfl (by kernel_rfl) (by kernel_rfl) (by kernel_rfl) rfl (fun _ _ _ h => h) (Or.inr ⟨by kernel_rfl, rfl⟩) hHeld rfl ?_
      refine HD.wa_take (i := 11) (d := some 26) (v := (undef)) rfl (by kernel_rfl) (by kernel_rfl) (by kernel_rfl) rfl (fun _ _ _ h => h) (Or.inr ⟨by kernel_rfl, rfl⟩) hHeld rfl ?_
      refine HD.wa_take (i := 12) (d := some 27) (v := (undef)) rfl (by kernel_rfl) (by kernel_rfl) (by kernel_rfl) rfl (fun _ _ _ h => h) (Or.inr ⟨by kernel_rfl, rfl⟩) hHeld rfl ?_
      refine HD.wa_take (i := 13) (d := some 28) (v := (undef)) rfl (by kernel_rfl) (by kernel_rfl) (by kernel_rfl) rfl (fun _ _ _ h => h) (Or.inr ⟨by kernel_rfl, rfl⟩) hHeld rfl ?_
      refine HD.wa_take (i := 14) (d := some 29) (v := (undef)) rfl (by kernel_rfl) (by kernel_rfl) (by kernel_rfl) rfl (fun _ _ _ h => h) (Or.inr ⟨by kernel_rfl, rfl⟩) hHeld rfl ?_
      refine HD.wa_take (i := 15) (d := some 30) (v := (undef)) rfl (by kernel_rfl) (by kernel_rfl) (by kernel_rfl) rfl (fun _ _ _ h => h) (Or.inr ⟨by kernel_rfl, rfl⟩) hHeld rfl ?_
      refine HD.wa_take (i := 16) (d := some 31) (v := (.bool false)) rfl (by kernel_rfl) (by kernel_rfl) (by kernel_rfl) rfl (fun _ _ _ h => h) (Or.inl ⟨by kernel_rfl, fun w9 hw => y_pick (b := false) rfl (by kernel_rfl) (by kernel_rfl)⟩) hHeld rfl ?_
      refine HD.wa_take (i := 17) (d := some 32) (v := (.bool true)) rfl (by kernel_rfl) (by kernel_rfl) (by kernel_rfl) rfl (fun _ _ _ h => h) (Or.inl ⟨by kernel_rfl, fun w9 hw => y_eqb1 (b := false) rfl (by kernel_rfl) (by kernel_rfl)⟩) hHeld rfl ?_
      refine HD.wa_take (i := 18) (d := some 6) (v := (.bool true)) rfl (by kernel_rfl) (by kernel_rfl) (by kernel_rfl) rfl (fun _ _ _ h => h) (Or.inl ⟨by kernel_rfl, fun w9 hw => y_assign rfl (by kernel_rfl)⟩) hHeld rfl ?_
      refine HD.wa_norm (a' := ⟨List.toArray ((p)::(.pointer (some ⟨r, 0, none⟩))::(.agg s.L.toArray)::undef::undef::(.pointer (some ⟨h0, 0, none⟩))::(.bool true)::undef::undef::undef::undef::(.pointer (some ⟨h0, 0, none⟩))::(.int .i64 s.kind)::(.bool true)::(.bool true)::(p)::(.pointer (some ⟨h0, 3, none⟩))::(.agg s.key.L.toArray)::(.pointer (some ⟨h0, 35, none⟩))::(.agg s.ent.L.toArray)::(.bool false)::(.pointer (some ⟨h0, 2, none⟩))::(.bool true)::(.bool false)::(.bool false)::(undef)::(undef)::(undef)::(undef)::(undef)::(undef)::(.bool false)::(.bool true)::undef::undef::undef::undef::undef::undef::undef::undef::undef::undef::undef::undef::undef::undef::undef::undef::undef::undef::undef::undef::undef::undef::undef::undef::undef::undef::undef::undef::undef::undef::undef::undef::undef::undef::undef::undef::undef::undef::undef::undef::undef::undef::undef::undef::undef::undef::undef::undef::undef::undef::undef::undef::undef::undef::undef::undef::undef::undef::[]), []⟩) (by kernel_rfl) ?_
      refine HD.wa_done (by kernel_rfl) ?_
      go_wp2_with fail
      go_ret
      exact ⟨rfl, H4.out⟩
    | false =>
      go_upto_region 3 with fail
      refine wp_region_held_drew (S := fun w9 => StAt w9 h0 s) (by kernel_rfl) (show StAt w2.drew h0 s from HA.out.2.mod (Mod.refl no w2).drew (fun c => c)) (fun hHeld => HD.WA.out ?_)
      refine HD.wa_take (i := 0) (d := some 15) (v := (p)) rfl (by kernel_rfl) (by kernel_rfl) (by kernel_rfl) rfl (fun _ _ _ h => h) (Or.inl ⟨by kernel_rfl, fun w9 hw => y_move rfl (by kernel_rfl)⟩) hHeld rfl ?_
      refine HD.wa_take (i := 1) (d := some 16) (v := (.pointer (some ⟨h0, 3, none⟩))) rfl (by kernel_rfl) (by kernel_rfl) (by kernel_rfl) rfl (fun _ _ _ h => h) (Or.inl ⟨by kernel_rfl, fun w9 hw => y_fst (k := 3) (by decide) rfl (by kernel_rfl)⟩) hHeld rfl ?_
      refine HD.wa_take (i := 2) (d := some 17) (v := (.agg s.key.L.toArray)) rfl (by kernel_rfl) (by kernel_rfl) (by kernel_rfl) rfl (fun _ _ _ h => h) (Or.inl ⟨by kernel_rfl, fun w9 hw => y_key rfl (by kernel_rfl) hw.key⟩) hHeld rfl ?_
      refine HD.wa_take (i := 3) (d := some 18) (v := (.pointer (some ⟨h0, 35, none⟩))) rfl (by kernel_rfl) (by kernel_rfl) (by kernel_rfl) rfl (fun _ _ _ h => h) (Or.inl ⟨by kernel_rfl, fun w9 hw => y_fst (k := 4) (by decide) rfl (by kernel_rfl)⟩) hHeld rfl ?_
      refine HD.wa_take (i := 4) (d := some 19) (v := (.agg s.ent.L.toArray)) rfl (by kernel_rfl) (by kernel_rfl) (by kernel_rfl) rfl (fun _ _ _ h => h) (Or.inl ⟨by kernel_rfl, fun w9 hw => y_ent rfl (by kernel_rfl) hw.ent⟩) hHeld rfl ?_
      refine HD.wa_take (i := 6) (d := some 21) (v := (.pointer (some ⟨h0, 2, none⟩))) rfl (by kernel_rfl) (by kernel_rfl) (by kernel_rfl) rfl (fun _ _ _ h => h) (Or.inl ⟨by kernel_rfl, fun w9 hw => y_fst (k := 2) (by decide) rfl (by kernel_rfl)⟩) hHeld rfl ?_
      refine HD.wa_take (i := 7) (d := some 22) (v := (.bool false)) rfl (by kernel_rfl) (by kernel_rfl) (by kernel_rfl) rfl (fun _ _ _ h => h) (Or.inl ⟨by kernel_rfl, fun w9 hw => y_bool rfl (by kernel_rfl) (by have h9 := hw.none_; rw [HN.out] at h9; exact h9) (by kernel_rfl)⟩) hHeld rfl ?_
      refine HD.wa_take (i := 8) (d := some 23) (v := (.bool true)) rfl (by kernel_rfl) (by kernel_rfl) (by kernel_rfl) rfl (fun _ _ _ h => h) (Or.inl ⟨by kernel_rfl, fun w9 hw => y_not (b := false) rfl (by kernel_rfl)⟩) hHeld rfl ?_
      refine HD.wa_callG _ (i := 5) (d := some 20) rfl (by kernel_rfl) rfl (by kernel_rfl) (fun _ => rfl) fun K hK => ?_
      refine op_c3 (fun _ _ => rfl) rfl (by kernel_rfl) (by kernel_rfl) (by kernel_rfl) (HC.out.put _ s.key s.ent HA.out.1.drew) ?_
      rintro e w3 ⟨b, rfl, ho, _, hrest⟩
      have HR := Lib.hid (hrest rfl)
      clear hrest
      refine ⟨_, rfl, hK _ _ (HO.out _ _ hHeld ho) fun hHeld9 => ?_⟩
      clear hK K hHeld
      have hHeld := hHeld9
      clear hHeld9
      clear ho
      refine HD.wa_take (i := 9) (d := some 24) (v := (.bool true)) rfl (by kernel_rfl) (by kernel_rfl) (by kernel_rfl) rfl (fun _ _ _ h => h) (Or.inl ⟨by kernel_rfl, fun w9 hw => y_move rfl (by kernel_rfl)⟩) hHeld rfl ?_
      refine HD.wa_take (i := 10) (d := some 25) (v := (.pointer (some ⟨r, 0, none⟩))) rfl (by kernel_rfl) (by kernel_rfl) (by kernel_rfl) rfl (fun _ _ _ h => h) (Or.inl ⟨by kernel_rfl, fun w9 hw => y_move rfl (by kernel_rfl)⟩) hHeld rfl ?_
      refine HD.wa_take (i := 11) (d := some 26) (v := (.pointer (some ⟨h0, 3, none⟩))) rfl (by kernel_rfl) (by kernel_rfl) (by kernel_rfl) rfl (fun _ _ _ h => h) (Or.inl ⟨by kernel_rfl, fun w9 hw => y_fst (k := 3) (by decide) rfl (by kernel_rfl)⟩) hHeld rfl ?_
      refine HD.wa_take (i := 12) (d := some 27) (v := (.agg s.key.L.toArray)) rfl (by kernel_rfl) (by kernel_rfl) (by kernel_rfl) rfl (fun _ _ _ h => h) (Or.inl ⟨by kernel_rfl, fun w9 hw => y_key rfl (by kernel_rfl) hw.key⟩) hHeld rfl ?_
      refine HD.wa_take (i := 13) (d := some 28) (v := (.pointer (some ⟨h0, 35, none⟩))) rfl (by kernel_rfl) (by kernel_rfl) (by kernel_rfl) rfl (fun _ _ _ h => h) (Or.inl ⟨by kernel_rfl, fun w9 hw => y_fst (k := 4) (by decide) rfl (by kernel_rfl)⟩) hHeld rfl ?_
      refine HD.wa_take (i := 14) (d := some 29) (v := (.agg s.ent.L.toArray)) rfl (by kernel_rfl) (by kernel_rfl) (by kernel_rfl) rfl (fun _ _ _ h => h) (Or.inl ⟨by kernel_rfl, fun w9 hw => y_ent rfl (by kernel_rfl) hw.ent⟩) hHeld rfl ?_
      refine HD.wa_callG _ (i := 15) (d := some 30) rfl (by kernel_rfl) rfl (by kernel_rfl) (fun _ => rfl) fun K hK => ?_
      refine op_c3 (fun _ _ => rfl) rfl (by kernel_rfl) (by kernel_rfl) (by kernel_rfl) (HR.out _ (Mod.refl no w3)) ?_
      rintro e w4 ⟨rfl, hf, ho⟩
      have H4 := Lib.hid hf
      clear hf
      refine ⟨_, rfl, hK _ _ (HO.out _ _ hHeld ho) fun hHeld9 => ?_⟩
      clear hK K hHeld
      have hHeld := hHeld9
      clear hHeld9
      clear ho
      refine HD.wa_take (i := 16) (d := some 31) (v := (.bool b)) rfl (by kernel_rfl) (by kernel_rfl) (by kernel_rfl) rfl (fun _ _ _ h => h) (Or.inl ⟨by kernel_rfl, fun w9 hw => y_pick (b := true) rfl (by kernel_rfl) (by kernel_rfl)⟩) hHeld rfl ?_
      refine HD.wa_take (i := 17) (d := some 32) (v := (.bool true)) rfl (by kernel_rfl) (by kernel_rfl) (by kernel_rfl) rfl (fun _ _ _ h => h) (Or.inl ⟨by kernel_rfl, fun w9 hw => y_eqb1 (b := b) rfl (by kernel_rfl) (by kernel_rfl)⟩) hHeld rfl ?_
      refine HD.wa_take (i := 18) (d := some 6) (v := (.bool true)) rfl (by kernel_rfl) (by kernel_rfl) (by kernel_rfl) rfl (fun _ _ _ h => h) (Or.inl ⟨by kernel_rfl, fun w9 hw => y_assign rfl (by kernel_rfl)⟩) hHeld rfl ?_
      refine HD.wa_norm (a' := ⟨List.toArray ((p)::(.pointer (some ⟨r, 0, none⟩))::(.agg s.L.toArray)::undef::undef::(.pointer (some ⟨h0, 0, none⟩))::(.bool true)::undef::undef::undef::undef::(.pointer (some ⟨h0, 0, none⟩))::(.int .i64 s.kind)::(.bool true)::(.bool true)::(p)::(.pointer (some ⟨h0, 3, none⟩))::(.agg s.key.L.toArray)::(.pointer (some ⟨h0, 35, none⟩))::(.agg s.ent.L.toArray)::(.bool b)::(.pointer (some ⟨h0, 2, none⟩))::(.bool false)::(.bool true)::(.bool true)::(.pointer (some ⟨r, 0, none⟩))::(.pointer (some ⟨h0, 3, none⟩))::(.agg s.key.L.toArray)::(.pointer (some ⟨h0, 35, none⟩))::(.agg s.ent.L.toArray)::(.bool b)::(.bool b)::(.bool true)::undef::undef::undef::undef::undef::undef::undef::undef::undef::undef::undef::undef::undef::undef::undef::undef::undef::undef::undef::undef::undef::undef::undef::undef::undef::undef::undef::undef::undef::undef::undef::undef::undef::undef::undef::undef::undef::undef::undef::undef::undef::undef::undef::undef::undef::undef::undef::undef::undef::undef::undef::undef::undef::undef::undef::undef::undef::undef::[]), []⟩) (by kernel_rfl) ?_
      refine HD.wa_done (by kernel_rfl) ?_
      go_wp2_with fail
      go_ret
      exact ⟨rfl, H4.out⟩
  have d1 : decide (s.kind = 3) = false := decide_eq_false hk
  clear hk
  go_upto_region 2 with fail
  refine HD.wl_begin ?_
  refine HD.wl_takeF (d := some 14) (v := (.bool false)) (by kernel_rfl) rfl rfl (y_eqi (n := 3) d1 rfl (by kernel_rfl) (by kernel_rfl)) ?_
  refine HD.wl_takeF (d := some 13) (v := (.bool false)) (by kernel_rfl) rfl rfl (y_assign rfl (by kernel_rfl)) ?_
  refine HD.wl_norm (a' := ⟨List.toArray ((p)::(.pointer (some ⟨r, 0, none⟩))::(.agg s.L.toArray)::undef::undef::(.pointer (some ⟨h0, 0, none⟩))::(.bool false)::undef::undef::undef::undef::(.pointer (some ⟨h0, 0, none⟩))::(.int .i64 s.kind)::(.bool false)::(.bool false)::undef::undef::undef::undef::undef::undef::undef::undef::undef::undef::undef::undef::undef::undef::undef::undef::undef::undef::undef::undef::undef::undef::undef::undef::undef::undef::undef::undef::undef::undef::undef::undef::undef::undef::undef::undef::undef::undef::undef::undef::undef::undef::undef::undef::undef::undef::undef::undef::undef::undef::undef::undef::undef::undef::undef::undef::undef::undef::undef::undef::undef::undef::undef::undef::undef::undef::undef::undef::undef::undef::undef::undef::undef::undef::undef::undef::[]), []⟩) (by kernel_rfl) ?_
  refine HD.wl_done ?_
  clear d1
  by_cases hk : s.kind = 4
  · have d1 : decide (s.kind = 4) = true := decide_eq_true hk
    clear hk
    go_upto_region 4 with fail
    refine HD.wl_begin ?_
    refine HD.wl_takeF (d := some 34) (v := (.bool true)) (by kernel_rfl) rfl rfl (y_eqi (n := 4) d1 rfl (by kernel_rfl) (by kernel_rfl)) ?_
    refine HD.wl_takeF (d := some 33) (v := (.bool true)) (by kernel_rfl) rfl rfl (y_assign rfl (by kernel_rfl)) ?_
    refine HD.wl_norm (a' := ⟨List.toArray ((p)::(.pointer (some ⟨r, 0, none⟩))::(.agg s.L.toArray)::undef::undef::(.pointer (some ⟨h0, 0, none⟩))::(.bool false)::undef::undef::undef::undef::(.pointer (some ⟨h0, 0, none⟩))::(.int .i64 s.kind)::(.bool false)::(.bool false)::undef::undef::undef::undef::undef::undef::undef::undef::undef::undef::undef::undef::undef::undef::undef::undef::undef::undef::(.bool true)::(.bool true)::undef::undef::undef::undef::undef::undef::undef::undef::undef::undef::undef::undef::undef::undef::undef::undef::undef::undef::undef::undef::undef::undef::undef::undef::undef::undef::undef::undef::undef::undef::undef::undef::undef::undef::undef::undef::undef::undef::undef::undef::undef::undef::undef::undef::undef::undef::undef::undef::undef::undef::undef::undef::undef::undef::undef::undef::[]), []⟩) (by kernel_rfl) ?_
    refine HD.wl_done ?_
    go_upto_region 5 with fail
    refine wp_region_held_drew (S := fun w9 => StAt w9 h0 s) (by kernel_rfl) (show StAt w2.drew h0 s from HA.out.2.mod (Mod.refl no w2).drew (fun c => c)) (fun hHeld => HD.WA.out ?_)
    refine HD.wa_take (i := 0) (d := some 35) (v := (p)) rfl (by kernel_rfl) (by kernel_rfl) (by kernel_rfl) rfl (fun _ _ _ h => h) (Or.inl ⟨by kernel_rfl, fun w9 hw => y_move rfl (by kernel_rfl)⟩) hHeld rfl ?_
    refine HD.wa_take (i := 1) (d := some 36) (v := (.pointer (some ⟨h0, 3, none⟩))) rfl (by kernel_rfl) (by kernel_rfl) (by kernel_rfl) rfl (fun _ _ _ h => h) (Or.inl ⟨by kernel_rfl, fun w9 hw => y_fst (k := 3) (by decide) rfl (by kernel_rfl)⟩) hHeld rfl ?_
    refine HD.wa_take (i := 2) (d := some 37) (v := (.agg s.key.L.toArray)) rfl (by kernel_rfl) (by kernel_rfl) (by kernel_rfl) rfl (fun _ _ _ h => h) (Or.inl ⟨by kernel_rfl, fun w9 hw => y_key rfl (by kernel_rfl) hw.key⟩) hHeld rfl ?_
    refine HD.wa_take (i := 3) (d := some 38) (v := (.pointer (some ⟨h0, 39, none⟩))) rfl (by kernel_rfl) (by kernel_rfl) (by kernel_rfl) rfl (fun _ _ _ h => h) (Or.inl ⟨by kernel_rfl, fun w9 hw => y_fst (k := 5) (by decide) rfl (by kernel_rfl)⟩) hHeld rfl ?_
    refine HD.wa_take (i := 4) (d := some 39) (v := (.int .u32 s.ep)) rfl (by kernel_rfl) (by kernel_rfl) (by kernel_rfl) rfl (fun _ _ _ h => h) (Or.inl ⟨by kernel_rfl, fun w9 hw => y_u32 rfl (by kernel_rfl) hw.ep⟩) hHeld rfl ?_
    refine HD.wa_take (i := 6) (d := some 41) (v := (.pointer (some ⟨r, 0, none⟩))) rfl (by kernel_rfl) (by kernel_rfl) (by kernel_rfl) rfl (fun _ _ _ h => h) (Or.inl ⟨by kernel_rfl, fun w9 hw => y_move rfl (by kernel_rfl)⟩) hHeld rfl ?_
    refine HD.wa_take (i := 7) (d := some 42) (v := (.pointer (some ⟨h0, 3, none⟩))) rfl (by kernel_rfl) (by kernel_rfl) (by kernel_rfl) rfl (fun _ _ _ h => h) (Or.inl ⟨by kernel_rfl, fun w9 hw => y_fst (k := 3) (by decide) rfl (by kernel_rfl)⟩) hHeld rfl ?_
    refine HD.wa_take (i := 8) (d := some 43) (v := (.agg s.key.L.toArray)) rfl (by kernel_rfl) (by kernel_rfl) (by kernel_rfl) rfl (fun _ _ _ h => h) (Or.inl ⟨by kernel_rfl, fun w9 hw => y_key rfl (by kernel_rfl) hw.key⟩) hHeld rfl ?_
    refine HD.wa_take (i := 9) (d := some 44) (v := (.pointer (some ⟨h0, 39, none⟩))) rfl (by kernel_rfl) (by kernel_rfl) (by kernel_rfl) rfl (fun _ _ _ h => h) (Or.inl ⟨by kernel_rfl, fun w9 hw => y_fst (k := 5) (by decide) rfl (by kernel_rfl)⟩) hHeld rfl ?_
    refine HD.wa_take (i := 10) (d := some 45) (v := (.int .u32 s.ep)) rfl (by kernel_rfl) (by kernel_rfl) (by kernel_rfl) rfl (fun _ _ _ h => h) (Or.inl ⟨by kernel_rfl, fun w9 hw => y_u32 rfl (by kernel_rfl) hw.ep⟩) hHeld rfl ?_
    refine HD.wa_callG _ (i := 5) (d := some 40) rfl (by kernel_rfl) rfl (by kernel_rfl) (fun _ => rfl) fun K hK => ?_
    refine op_c3 (fun _ _ => rfl) rfl (by kernel_rfl) (by kernel_rfl) (by kernel_rfl) (HC.out.mark _ s.key s.ep HA.out.1.drew) ?_
    rintro e w3 ⟨b, rfl, ho, hrest⟩
    have HR := Lib.hid hrest
    clear hrest
    refine ⟨_, rfl, hK _ _ (HO.out _ _ hHeld ho) fun hHeld9 => ?_⟩
    clear hK K hHeld
    have hHeld := hHeld9
    clear hHeld9
    clear ho
    refine HD.wa_callG _ (i := 11) (d := some 46) rfl (by kernel_rfl) rfl (by kernel_rfl) (fun _ => rfl) fun K hK => ?_
    refine op_c3 (fun _ _ => rfl) rfl (by kernel_rfl) (by kernel_rfl) (by kernel_rfl) (HR.out _ (Mod.refl no w3)) ?_
    rintro e w4 ⟨rfl, hf, ho⟩
    have H4 := Lib.hid hf
    clear hf
    refine ⟨_, rfl, hK _ _ (HO.out _ _ hHeld ho) fun hHeld9 => ?_⟩
    clear hK K hHeld
    have hHeld := hHeld9
    clear hHeld9
    clear ho
    refine HD.wa_take (i := 12) (d := some 47) (v := (.bool true)) rfl (by kernel_rfl) (by kernel_rfl) (by kernel_rfl) rfl (fun _ _ _ h => h) (Or.inl ⟨by kernel_rfl, fun w9 hw => y_eqb1 (b := b) rfl (by kernel_rfl) (by kernel_rfl)⟩) hHeld rfl ?_
    refine HD.wa_take (i := 13) (d := some 6) (v := (.bool true)) rfl (by kernel_rfl) (by kernel_rfl) (by kernel_rfl) rfl (fun _ _ _ h => h) (Or.inl ⟨by kernel_rfl, fun w9 hw => y_assign rfl (by kernel_rfl)⟩) hHeld rfl ?_
    refine HD.wa_norm (a' := ⟨List.toArray ((p)::(.pointer (some ⟨r, 0, none⟩))::(.agg s.L.toArray)::undef::undef::(.pointer (some ⟨h0, 0, none⟩))::(.bool true)::undef::undef::undef::undef::(.pointer (some ⟨h0, 0, none⟩))::(.int .i64 s.kind)::(.bool false)::(.bool false)::undef::undef::undef::undef::undef::undef::undef::undef::undef::undef::undef::undef::undef::undef::undef::undef::undef::undef::(.bool true)::(.bool true)::(p)::(.pointer (some ⟨h0, 3, none⟩))::(.agg s.key.L.toArray)::(.pointer (some ⟨h0, 39, none⟩))::(.int .u32 s.ep)::(.bool b)::(.pointer (some ⟨r, 0, none⟩))::(.pointer (some ⟨h0, 3, none⟩))::(.agg s.key.L.toArray)::(.pointer (some ⟨h0, 39, none⟩))::(.int .u32 s.ep)::(.bool b)::(.bool true)::undef::undef::undef::undef::undef::undef::undef::undef::undef::undef::undef::undef::undef::undef::undef::undef::undef::undef::undef::undef::undef::undef::undef::undef::undef::undef::undef::undef::undef::undef::undef::undef::undef::undef::undef::undef::undef::undef::undef::undef::undef::undef::undef::[]), []⟩) (by kernel_rfl) ?_
    refine HD.wa_done (by kernel_rfl) ?_
    go_wp2_with fail
    go_ret
    exact ⟨rfl, H4.out⟩
  have d1 : decide (s.kind = 4) = false := decide_eq_false hk
  clear hk
  go_upto_region 4 with fail
  refine HD.wl_begin ?_
  refine HD.wl_takeF (d := some 34) (v := (.bool false)) (by kernel_rfl) rfl rfl (y_eqi (n := 4) d1 rfl (by kernel_rfl) (by kernel_rfl)) ?_
  refine HD.wl_takeF (d := some 33) (v := (.bool false)) (by kernel_rfl) rfl rfl (y_assign rfl (by kernel_rfl)) ?_
  refine HD.wl_norm (a' := ⟨List.toArray ((p)::(.pointer (some ⟨r, 0, none⟩))::(.agg s.L.toArray)::undef::undef::(.pointer (some ⟨h0, 0, none⟩))::(.bool false)::undef::undef::undef::undef::(.pointer (some ⟨h0, 0, none⟩))::(.int .i64 s.kind)::(.bool false)::(.bool false)::undef::undef::undef::undef::undef::undef::undef::undef::undef::undef::undef::undef::undef::undef::undef::undef::undef::undef::(.bool false)::(.bool false)::undef::undef::undef::undef::undef::undef::undef::undef::undef::undef::undef::undef::undef::undef::undef::undef::undef::undef::undef::undef::undef::undef::undef::undef::undef::undef::undef::undef::undef::undef::undef::undef::undef::undef::undef::undef::undef::undef::undef::undef::undef::undef::undef::undef::undef::undef::undef::undef::undef::undef::undef::undef::undef::undef::undef::undef::[]), []⟩) (by kernel_rfl) ?_
  refine HD.wl_done ?_
  clear d1
  by_cases hk : s.kind = 5
  · have d1 : decide (s.kind = 5) = true := decide_eq_true hk
    clear hk
    go_upto_region 6 with fail
    refine HD.wl_begin ?_
    refine HD.wl_takeF (d := some 49) (v := (.bool true)) (by kernel_rfl) rfl rfl (y_eqi (n := 5) d1 rfl (by kernel_rfl) (by kernel_rfl)) ?_
    refine HD.wl_takeF (d := some 48) (v := (.bool true)) (by kernel_rfl) rfl rfl (y_assign rfl (by kernel_rfl)) ?_
    refine HD.wl_norm (a' := ⟨List.toArray ((p)::(.pointer (some ⟨r, 0, none⟩))::(.agg s.L.toArray)::undef::undef::(.pointer (some ⟨h0, 0, none⟩))::(.bool false)::undef::undef::undef::undef::(.pointer (some ⟨h0, 0, none⟩))::(.int .i64 s.kind)::(.bool false)::(.bool false)::undef::undef::undef::undef::undef::undef::undef::undef::undef::undef::undef::undef::undef::undef::undef::undef::undef::undef::(.bool false)::(.bool false)::undef::undef::undef::undef::undef::undef::undef::undef::undef::undef::undef::undef::undef::(.bool true)::(.bool true)::undef::undef::undef::undef::undef::undef::undef::undef::undef::undef::undef::undef::undef::undef::undef::undef::undef::undef::undef::undef::undef::undef::undef::undef::undef::undef::undef::undef::undef::undef::undef::undef::undef::undef::undef::undef::undef::undef::undef::undef::undef::[]), []⟩) (by kernel_rfl) ?_
    refine HD.wl_done ?_
    go_upto_region 7 with fail
    refine wp_region_held_drew (S := fun w9 => StAt w9 h0 s) (by kernel_rfl) (show StAt w2.drew h0 s from HA.out.2.mod (Mod.refl no w2).drew (fun c => c)) (fun hHeld => HD.WA.out ?_)
    refine HD.wa_take (i := 0) (d := some 50) (v := (p)) rfl (by kernel_rfl) (by kernel_rfl) (by kernel_rfl) rfl (fun _ _ _ h => h) (Or.inl ⟨by kernel_rfl, fun w9 hw => y_move rfl (by kernel_rfl)⟩) hHeld rfl ?_
    refine HD.wa_take (i := 1) (d := some 51) (v := (.pointer (some ⟨h0, 3, none⟩))) rfl (by kernel_rfl) (by kernel_rfl) (by kernel_rfl) rfl (fun _ _ _ h => h) (Or.inl ⟨by kernel_rfl, fun w9 hw => y_fst (k := 3) (by decide) rfl (by kernel_rfl)⟩) hHeld rfl ?_
    refine HD.wa_take (i := 2) (d := some 52) (v := (.agg s.key.L.toArray)) rfl (by kernel_rfl) (by kernel_rfl) (by kernel_rfl) rfl (fun _ _ _ h => h) (Or.inl ⟨by kernel_rfl, fun w9 hw => y_key rfl (by kernel_rfl) hw.key⟩) hHeld rfl ?_
    refine HD.wa_take (i := 3) (d := some 53) (v := (.pointer (some ⟨h0, 40, none⟩))) rfl (by kernel_rfl) (by kernel_rfl) (by kernel_rfl) rfl (fun _ _ _ h => h) (Or.inl ⟨by kernel_rfl, fun w9 hw => y_fst (k := 6) (by decide) rfl (by kernel_rfl)⟩) hHeld rfl ?_
    refine HD.wa_take (i := 4) (d := some 54) (v := (.agg #[.int .i64 s.fs, .int .i64 s.fo])) rfl (by kernel_rfl) (by kernel_rfl) (by kernel_rfl) rfl (fun _ _ _ h => h) (Or.inl ⟨by kernel_rfl, fun w9 hw => y_place rfl (by kernel_rfl) hw.from_⟩) hHeld rfl ?_
    refine HD.wa_take (i := 5) (d := some 55) (v := (.pointer (some ⟨h0, 42, none⟩))) rfl (by kernel_rfl) (by kernel_rfl) (by kernel_rfl) rfl (fun _ _ _ h => h) (Or.inl ⟨by kernel_rfl, fun w9 hw => y_fst (k := 7) (by decide) rfl (by kernel_rfl)⟩) hHeld rfl ?_
    refine HD.wa_take (i := 6) (d := some 56) (v := (.agg #[.int .i64 s.ts, .int .i64 s.tu])) rfl (by kernel_rfl) (by kernel_rfl) (by kernel_rfl) rfl (fun _ _ _ h => h) (Or.inl ⟨by kernel_rfl, fun w9 hw => y_place rfl (by kernel_rfl) hw.to_⟩) hHeld rfl ?_
    refine HD.wa_take (i := 8) (d := some 58) (v := (.pointer (some ⟨r, 0, none⟩))) rfl (by kernel_rfl) (by kernel_rfl) (by kernel_rfl) rfl (fun _ _ _ h => h) (Or.inl ⟨by kernel_rfl, fun w9 hw => y_move rfl (by kernel_rfl)⟩) hHeld rfl ?_
    refine HD.wa_take (i := 9) (d := some 59) (v := (.pointer (some ⟨h0, 3, none⟩))) rfl (by kernel_rfl) (by kernel_rfl) (by kernel_rfl) rfl (fun _ _ _ h => h) (Or.inl ⟨by kernel_rfl, fun w9 hw => y_fst (k := 3) (by decide) rfl (by kernel_rfl)⟩) hHeld rfl ?_
    refine HD.wa_take (i := 10) (d := some 60) (v := (.agg s.key.L.toArray)) rfl (by kernel_rfl) (by kernel_rfl) (by kernel_rfl) rfl (fun _ _ _ h => h) (Or.inl ⟨by kernel_rfl, fun w9 hw => y_key rfl (by kernel_rfl) hw.key⟩) hHeld rfl ?_
    refine HD.wa_take (i := 11) (d := some 61) (v := (.pointer (some ⟨h0, 40, none⟩))) rfl (by kernel_rfl) (by kernel_rfl) (by kernel_rfl) rfl (fun _ _ _ h => h) (Or.inl ⟨by kernel_rfl, fun w9 hw => y_fst (k := 6) (by decide) rfl (by kernel_rfl)⟩) hHeld rfl ?_
    refine HD.wa_take (i := 12) (d := some 62) (v := (.agg #[.int .i64 s.fs, .int .i64 s.fo])) rfl (by kernel_rfl) (by kernel_rfl) (by kernel_rfl) rfl (fun _ _ _ h => h) (Or.inl ⟨by kernel_rfl, fun w9 hw => y_place rfl (by kernel_rfl) hw.from_⟩) hHeld rfl ?_
    refine HD.wa_take (i := 13) (d := some 63) (v := (.pointer (some ⟨h0, 42, none⟩))) rfl (by kernel_rfl) (by kernel_rfl) (by kernel_rfl) rfl (fun _ _ _ h => h) (Or.inl ⟨by kernel_rfl, fun w9 hw => y_fst (k := 7) (by decide) rfl (by kernel_rfl)⟩) hHeld rfl ?_
    refine HD.wa_take (i := 14) (d := some 64) (v := (.agg #[.int .i64 s.ts, .int .i64 s.tu])) rfl (by kernel_rfl) (by kernel_rfl) (by kernel_rfl) rfl (fun _ _ _ h => h) (Or.inl ⟨by kernel_rfl, fun w9 hw => y_place rfl (by kernel_rfl) hw.to_⟩) hHeld rfl ?_
    refine HD.wa_callG _ (i := 7) (d := some 57) rfl (by kernel_rfl) rfl (by kernel_rfl) (fun _ => rfl) fun K hK => ?_
    refine op_c4 (fun _ _ => rfl) rfl (by kernel_rfl) (by kernel_rfl) (by kernel_rfl) (by kernel_rfl) (HC.out.move _ s.key s.fs s.fo s.ts s.tu HA.out.1.drew) ?_
    rintro e w3 ⟨b, rfl, ho, hrest⟩
    have HR := Lib.hid hrest
    clear hrest
    refine ⟨_, rfl, hK _ _ (HO.out _ _ hHeld ho) fun hHeld9 => ?_⟩
    clear hK K hHeld
    have hHeld := hHeld9
    clear hHeld9
    clear ho
    refine HD.wa_callG _ (i := 15) (d := some 65) rfl (by kernel_rfl) rfl (by kernel_rfl) (fun _ => rfl) fun K hK => ?_
    refine op_c4 (fun _ _ => rfl) rfl (by kernel_rfl) (by kernel_rfl) (by kernel_rfl) (by kernel_rfl) (HR.out _ (Mod.refl no w3)) ?_
    rintro e w4 ⟨rfl, hf, ho⟩
    have H4 := Lib.hid hf
    clear hf
    refine ⟨_, rfl, hK _ _ (HO.out _ _ hHeld ho) fun hHeld9 => ?_⟩
    clear hK K hHeld
    have hHeld := hHeld9
    clear hHeld9
    clear ho
    refine HD.wa_take (i := 16) (d := some 66) (v := (.bool true)) rfl (by kernel_rfl) (by kernel_rfl) (by kernel_rfl) rfl (fun _ _ _ h => h) (Or.inl ⟨by kernel_rfl, fun w9 hw => y_eqb1 (b := b) rfl (by kernel_rfl) (by kernel_rfl)⟩) hHeld rfl ?_
    refine HD.wa_take (i := 17) (d := some 6) (v := (.bool true)) rfl (by kernel_rfl) (by kernel_rfl) (by kernel_rfl) rfl (fun _ _ _ h => h) (Or.inl ⟨by kernel_rfl, fun w9 hw => y_assign rfl (by kernel_rfl)⟩) hHeld rfl ?_
    refine HD.wa_norm (a' := ⟨List.toArray ((p)::(.pointer (some ⟨r, 0, none⟩))::(.agg s.L.toArray)::undef::undef::(.pointer (some ⟨h0, 0, none⟩))::(.bool true)::undef::undef::undef::undef::(.pointer (some ⟨h0, 0, none⟩))::(.int .i64 s.kind)::(.bool false)::(.bool false)::undef::undef::undef::undef::undef::undef::undef::undef::undef::undef::undef::undef::undef::undef::undef::undef::undef::undef::(.bool false)::(.bool false)::undef::undef::undef::undef::undef::undef::undef::undef::undef::undef::undef::undef::undef::(.bool true)::(.bool true)::(p)::(.pointer (some ⟨h0, 3, none⟩))::(.agg s.key.L.toArray)::(.pointer (some ⟨h0, 40, none⟩))::(.agg #[.int .i64 s.fs, .int .i64 s.fo])::(.pointer (some ⟨h0, 42, none⟩))::(.agg #[.int .i64 s.ts, .int .i64 s.tu])::(.bool b)::(.pointer (some ⟨r, 0, none⟩))::(.pointer (some ⟨h0, 3, none⟩))::(.agg s.key.L.toArray)::(.pointer (some ⟨h0, 40, none⟩))::(.agg #[.int .i64 s.fs, .int .i64 s.fo])::(.pointer (some ⟨h0, 42, none⟩))::(.agg #[.int .i64 s.ts, .int .i64 s.tu])::(.bool b)::(.bool true)::undef::undef::undef::undef::undef::undef::undef::undef::undef::undef::undef::undef::undef::undef::undef::undef::undef::undef::undef::undef::undef::undef::undef::undef::[]), []⟩) (by kernel_rfl) ?_
    refine HD.wa_done (by kernel_rfl) ?_
    go_wp2_with fail
    go_ret
    exact ⟨rfl, H4.out⟩
  have d1 : decide (s.kind = 5) = false := decide_eq_false hk
  clear hk
  go_upto_region 6 with fail
  refine HD.wl_begin ?_
  refine HD.wl_takeF (d := some 49) (v := (.bool false)) (by kernel_rfl) rfl rfl (y_eqi (n := 5) d1 rfl (by kernel_rfl) (by kernel_rfl)) ?_
  refine HD.wl_takeF (d := some 48) (v := (.bool false)) (by kernel_rfl) rfl rfl (y_assign rfl (by kernel_rfl)) ?_
  refine HD.wl_norm (a' := ⟨List.toArray ((p)::(.pointer (some ⟨r, 0, none⟩))::(.agg s.L.toArray)::undef::undef::(.pointer (some ⟨h0, 0, none⟩))::(.bool false)::undef::undef::undef::undef::(.pointer (some ⟨h0, 0, none⟩))::(.int .i64 s.kind)::(.bool false)::(.bool false)::undef::undef::undef::undef::undef::undef::undef::undef::undef::undef::undef::undef::undef::undef::undef::undef::undef::undef::(.bool false)::(.bool false)::undef::undef::undef::undef::undef::undef::undef::undef::undef::undef::undef::undef::undef::(.bool false)::(.bool false)::undef::undef::undef::undef::undef::undef::undef::undef::undef::undef::undef::undef::undef::undef::undef::undef::undef::undef::undef::undef::undef::undef::undef::undef::undef::undef::undef::undef::undef::undef::undef::undef::undef::undef::undef::undef::undef::undef::undef::undef::undef::[]), []⟩) (by kernel_rfl) ?_
  refine HD.wl_done ?_
  clear d1
  by_cases hk : s.kind = 6
  · have d1 : decide (s.kind = 6) = true := decide_eq_true hk
    clear hk
    go_upto_region 8 with fail
    refine HD.wl_begin ?_
    refine HD.wl_takeF (d := some 68) (v := (.bool true)) (by kernel_rfl) rfl rfl (y_eqi (n := 6) d1 rfl (by kernel_rfl) (by kernel_rfl)) ?_
    refine HD.wl_takeF (d := some 67) (v := (.bool true)) (by kernel_rfl) rfl rfl (y_assign rfl (by kernel_rfl)) ?_
    refine HD.wl_norm (a' := ⟨List.toArray ((p)::(.pointer (some ⟨r, 0, none⟩))::(.agg s.L.toArray)::undef::undef::(.pointer (some ⟨h0, 0, none⟩))::(.bool false)::undef::undef::undef::undef::(.pointer (some ⟨h0, 0, none⟩))::(.int .i64 s.kind)::(.bool false)::(.bool false)::undef::undef::undef::undef::undef::undef::undef::undef::undef::undef::undef::undef::undef::undef::undef::undef::undef::undef::(.bool false)::(.bool false)::undef::undef::undef::undef::undef::undef::undef::undef::undef::undef::undef::undef::undef::(.bool false)::(.bool false)::undef::undef::undef::undef::undef::undef::undef::undef::undef::undef::undef::undef::undef::undef::undef::undef::undef::(.bool true)::(.bool true)::undef::undef::undef::undef::undef::undef::undef::undef::undef::undef::undef::undef::undef::undef::undef::undef::undef::undef::undef::undef::undef::undef::[]), []⟩) (by kernel_rfl) ?_
    refine HD.wl_done ?_
    go_upto_region 9 with fail
    refine HD.wl_begin ?_
    refine HD.wl_takeF (d := some 70) (v := (p)) (by kernel_rfl) rfl rfl (y_move rfl (by kernel_rfl)) ?_
    refine HD.wl_takeF (d := some 71) (v := (.pointer (some ⟨h0, 3, none⟩))) (by kernel_rfl) rfl rfl (y_fst (k := 3) (by decide) rfl (by kernel_rfl)) ?_
    refine HD.wl_takeF (d := some 72) (v := (.agg s.key.L.toArray)) (by kernel_rfl) rfl rfl (y_key rfl (by kernel_rfl) HA.out.2.key) ?_
    refine HD.wl_callG _ (d := some 73) (by kernel_rfl) rfl (fun _ => rfl) fun K hK => ?_
    refine op_c2 (fun _ _ => rfl) rfl (by kernel_rfl) (by kernel_rfl) (HC.out.del _ s.key HA.out.1) ?_
    rintro e w3 ⟨q, rfl, ho, hrest⟩
    rw [gotV_eq]
    have HR := Lib.hid hrest
    have HS3 := Lib.hid (HO.out _ _ HA.out.2 ho)
    have HZ3 := Lib.hid (Nat.le_trans HA.out.1.size ho.size)
    clear hrest ho
    refine ⟨_, rfl, hK _ _ ?_⟩
    clear hK K
    refine HD.wl_takeF (d := some 69) (v := (.tuple #[.agg (q.getD e0).L.toArray, .bool q.isSome])) (by kernel_rfl) rfl rfl (y_move rfl (by kernel_rfl)) ?_
    refine HD.wl_takeF (d := some 74) (v := (.agg (q.getD e0).L.toArray)) (by kernel_rfl) rfl rfl (y_ext (vs := #[.agg (q.getD e0).L.toArray, .bool q.isSome]) rfl (by kernel_rfl) (by kernel_rfl)) ?_
    refine HD.wl_takeF (d := some 75) (v := (.bool q.isSome)) (by kernel_rfl) rfl rfl (y_ext (vs := #[.agg (q.getD e0).L.toArray, .bool q.isSome]) rfl (by kernel_rfl) (by kernel_rfl)) ?_
    obtain ⟨h4, hh8⟩ : ∃ h4, h4 = w3.heap.size := ⟨_, rfl⟩
    refine HD.wl_takeF (d := some 7) (v := (.pointer (some ⟨h4, 0, none⟩))) (by kernel_rfl) rfl rfl (by rw [hh8]; exact y_allocE rfl) ?_
    refine wl_entF rfl h4 (q.getD e0) (by kernel_rfl) rfl rfl (by kernel_rfl) (by kernel_rfl) (by rw [hh8]; exact Blk.new _ _ _) ?_
    have hF := fresh_ent2 w3 (q.getD e0)
    rw [← hh8] at hF
    obtain ⟨w4, hw8⟩ : ∃ w4, w4 = ((w3.alloc (.cells e0.L.toArray 56)).setCells h4 0 ((q.getD e0).L)) := ⟨_, rfl⟩
    change HD.WL _ _ _ _ ((w3.alloc (.cells e0.L.toArray 56)).setCells h4 0 ((q.getD e0).L))
    rw [← hw8] at hF ⊢
    clear hw8
    have H4 := Lib.hid (And.intro hF.1 (And.intro (HS3.out.mod hF.1 (fun c => c)) hF.2))
    have HN4 := Lib.hid (show ¬ h4 < w.heap.size from by have := HZ3.out; rw [hh8]; omega)
    clear hF hh8
    refine HD.wl_takeF (d := some 8) (v := (.bool q.isSome)) (by kernel_rfl) rfl rfl (y_assign rfl (by kernel_rfl)) ?_
    refine HD.wl_norm (a' := ⟨List.toArray ((p)::(.pointer (some ⟨r, 0, none⟩))::(.agg s.L.toArray)::undef::undef::(.pointer (some ⟨h0, 0, none⟩))::(.bool false)::(.pointer (some ⟨h4, 0, none⟩))::(.bool q.isSome)::undef::undef::(.pointer (some ⟨h0, 0, none⟩))::(.int .i64 s.kind)::(.bool false)::(.bool false)::undef::undef::undef::undef::undef::undef::undef::undef::undef::undef::undef::undef::undef::undef::undef::undef::undef::undef::(.bool false)::(.bool false)::undef::undef::undef::undef::undef::undef::undef::undef::undef::undef::undef::undef::undef::(.bool false)::(.bool false)::undef::undef::undef::undef::undef::undef::undef::undef::undef::undef::undef::undef::undef::undef::undef::undef::undef::(.bool true)::(.bool true)::(.tuple #[.agg (q.getD e0).L.toArray, .bool q.isSome])::(p)::(.pointer (some ⟨h0, 3, none⟩))::(.agg s.key.L.toArray)::(.tuple #[.agg (q.getD e0).L.toArray, .bool q.isSome])::(.agg (q.getD e0).L.toArray)::(.bool q.isSome)::undef::undef::undef::undef::undef::undef::undef::undef::undef::undef::undef::undef::undef::undef::undef::[]), []⟩) (by kernel_rfl) ?_
    refine HD.wl_done ?_
    go_upto_region 10 with fail
    refine HD.wl_begin ?_
    refine HD.wl_takeF (d := some 77) (v := (.pointer (some ⟨r, 0, none⟩))) (by kernel_rfl) rfl rfl (y_move rfl (by kernel_rfl)) ?_
    refine HD.wl_takeF (d := some 78) (v := (.pointer (some ⟨h0, 3, none⟩))) (by kernel_rfl) rfl rfl (y_fst (k := 3) (by decide) rfl (by kernel_rfl)) ?_
    refine HD.wl_takeF (d := some 79) (v := (.agg s.key.L.toArray)) (by kernel_rfl) rfl rfl (y_key rfl (by kernel_rfl) H4.out.2.1.key) ?_
    refine HD.wl_callG _ (d := some 80) (by kernel_rfl) rfl (fun _ => rfl) fun K hK => ?_
    refine op_c2 (fun _ _ => rfl) rfl (by kernel_rfl) (by kernel_rfl) (HR.out _ H4.out.1) ?_
    rintro e w5 ⟨rfl, hf, ho⟩
    rw [gotV_eq]
    have HM5 := Lib.hid (And.intro hf ho)
    clear hf ho
    refine ⟨_, rfl, hK _ _ ?_⟩
    clear hK K
    refine HD.wl_takeF (d := some 76) (v := (.tuple #[.agg (q.getD e0).L.toArray, .bool q.isSome])) (by kernel_rfl) rfl rfl (y_move rfl (by kernel_rfl)) ?_
    refine HD.wl_takeF (d := some 81) (v := (.agg (q.getD e0).L.toArray)) (by kernel_rfl) rfl rfl (y_ext (vs := #[.agg (q.getD e0).L.toArray, .bool q.isSome]) rfl (by kernel_rfl) (by kernel_rfl)) ?_
    refine HD.wl_takeF (d := some 82) (v := (.bool q.isSome)) (by kernel_rfl) rfl rfl (y_ext (vs := #[.agg (q.getD e0).L.toArray, .bool q.isSome]) rfl (by kernel_rfl) (by kernel_rfl)) ?_
    obtain ⟨h6, hh8⟩ : ∃ h6, h6 = w5.heap.size := ⟨_, rfl⟩
    refine HD.wl_takeF (d := some 9) (v := (.pointer (some ⟨h6, 0, none⟩))) (by kernel_rfl) rfl rfl (by rw [hh8]; exact y_allocE rfl) ?_
    refine wl_entF rfl h6 (q.getD e0) (by kernel_rfl) rfl rfl (by kernel_rfl) (by kernel_rfl) (by rw [hh8]; exact Blk.new _ _ _) ?_
    have hF := fresh_ent2 w5 (q.getD e0)
    rw [← hh8] at hF
    obtain ⟨w6, hw8⟩ : ∃ w6, w6 = ((w5.alloc (.cells e0.L.toArray 56)).setCells h6 0 ((q.getD e0).L)) := ⟨_, rfl⟩
    change HD.WL _ _ _ _ ((w5.alloc (.cells e0.L.toArray 56)).setCells h6 0 ((q.getD e0).L))
    rw [← hw8] at hF ⊢
    clear hw8
    have H6 := Lib.hid (And.intro ((H4.out.2.2.mod HM5.out.2 HN4.out).mod hF.1 (fun c => c)) (And.intro hF.2 (And.intro HM5.out.1 hF.1)))
    clear hF hh8
    refine HD.wl_takeF (d := some 10) (v := (.bool q.isSome)) (by kernel_rfl) rfl rfl (y_assign rfl (by kernel_rfl)) ?_
    refine HD.wl_norm (a' := ⟨List.toArray ((p)::(.pointer (some ⟨r, 0, none⟩))::(.agg s.L.toArray)::undef::undef::(.pointer (some ⟨h0, 0, none⟩))::(.bool false)::(.pointer (some ⟨h4, 0, none⟩))::(.bool q.isSome)::(.pointer (some ⟨h6, 0, none⟩))::(.bool q.isSome)::(.pointer (some ⟨h0, 0, none⟩))::(.int .i64 s.kind)::(.bool false)::(.bool false)::undef::undef::undef::undef::undef::undef::undef::undef::undef::undef::undef::undef::undef::undef::undef::undef::undef::undef::(.bool false)::(.bool false)::undef::undef::undef::undef::undef::undef::undef::undef::undef::undef::undef::undef::undef::(.bool false)::(.bool false)::undef::undef::undef::undef::undef::undef::undef::undef::undef::undef::undef::undef::undef::undef::undef::undef::undef::(.bool true)::(.bool true)::(.tuple #[.agg (q.getD e0).L.toArray, .bool q.isSome])::(p)::(.pointer (some ⟨h0, 3, none⟩))::(.agg s.key.L.toArray)::(.tuple #[.agg (q.getD e0).L.toArray, .bool q.isSome])::(.agg (q.getD e0).L.toArray)::(.bool q.isSome)::(.tuple #[.agg (q.getD e0).L.toArray, .bool q.isSome])::(.pointer (some ⟨r, 0, none⟩))::(.pointer (some ⟨h0, 3, none⟩))::(.agg s.key.L.toArray)::(.tuple #[.agg (q.getD e0).L.toArray, .bool q.isSome])::(.agg (q.getD e0).L.toArray)::(.bool q.isSome)::undef::undef::undef::undef::undef::undef::undef::undef::[]), []⟩) (by kernel_rfl) ?_
    refine HD.wl_done ?_
    go_upto_region 11 with fail
    refine HD.wl_begin ?_
    refine HD.wl_takeF (d := some 83) (v := (.agg (q.getD e0).L.toArray)) (by kernel_rfl) rfl rfl (y_ent rfl (by kernel_rfl) (blk_range H6.out.1)) ?_
    refine HD.wl_takeF (d := some 84) (v := (.agg (q.getD e0).L.toArray)) (by kernel_rfl) rfl rfl (y_ent rfl (by kernel_rfl) (blk_range H6.out.2.1)) ?_
    refine HD.wl_takeF (d := some 85) (v := (.bool true)) (by kernel_rfl) rfl rfl (y_eqE1 (e := q.getD e0) rfl (by kernel_rfl) (by kernel_rfl)) ?_
    refine HD.wl_takeF (d := some 86) (v := (.bool true)) (by kernel_rfl) rfl rfl (y_move rfl (by kernel_rfl)) ?_
    refine HD.wl_takeF (d := some 87) (v := (.bool q.isSome)) (by kernel_rfl) rfl rfl (y_move rfl (by kernel_rfl)) ?_
    refine HD.wl_takeF (d := some 88) (v := (.bool q.isSome)) (by kernel_rfl) rfl rfl (y_move rfl (by kernel_rfl)) ?_
    refine HD.wl_takeF (d := some 89) (v := (.bool true)) (by kernel_rfl) rfl rfl (y_eqb1 (b := q.isSome) rfl (by kernel_rfl) (by kernel_rfl)) ?_
    refine HD.wl_takeF (d := some 90) (v := (.bool true)) (by kernel_rfl) rfl rfl (y_pick (b := true) rfl (by kernel_rfl) (by kernel_rfl)) ?_
    refine HD.wl_takeF (d := some 6) (v := (.bool true)) (by kernel_rfl) rfl rfl (y_assign rfl (by kernel_rfl)) ?_
    refine HD.wl_norm (a' := ⟨List.toArray ((p)::(.pointer (some ⟨r, 0, none⟩))::(.agg s.L.toArray)::undef::undef::(.pointer (some ⟨h0, 0, none⟩))::(.bool true)::(.pointer (some ⟨h4, 0, none⟩))::(.bool q.isSome)::(.pointer (some ⟨h6, 0, none⟩))::(.bool q.isSome)::(.pointer (some ⟨h0, 0, none⟩))::(.int .i64 s.kind)::(.bool false)::(.bool false)::undef::undef::undef::undef::undef::undef::undef::undef::undef::undef::undef::undef::undef::undef::undef::undef::undef::undef::(.bool false)::(.bool false)::undef::undef::undef::undef::undef::undef::undef::undef::undef::undef::undef::undef::undef::(.bool false)::(.bool false)::undef::undef::undef::undef::undef::undef::undef::undef::undef::undef::undef::undef::undef::undef::undef::undef::undef::(.bool true)::(.bool true)::(.tuple #[.agg (q.getD e0).L.toArray, .bool q.isSome])::(p)::(.pointer (some ⟨h0, 3, none⟩))::(.agg s.key.L.toArray)::(.tuple #[.agg (q.getD e0).L.toArray, .bool q.isSome])::(.agg (q.getD e0).L.toArray)::(.bool q.isSome)::(.tuple #[.agg (q.getD e0).L.toArray, .bool q.isSome])::(.pointer (some ⟨r, 0, none⟩))::(.pointer (some ⟨h0, 3, none⟩))::(.agg s.key.L.toArray)::(.tuple #[.agg (q.getD e0).L.toArray, .bool q.isSome])::(.agg (q.getD e0).L.toArray)::(.bool q.isSome)::(.agg (q.getD e0).L.toArray)::(.agg (q.getD e0).L.toArray)::(.bool true)::(.bool true)::(.bool q.isSome)::(.bool q.isSome)::(.bool true)::(.bool true)::[]), []⟩) (by kernel_rfl) ?_
    refine HD.wl_done ?_
    go_wp2_with fail
    go_ret
    exact ⟨rfl, HC.out.fin' _ _ H6.out.2.2.1 H6.out.2.2.2⟩
  have d1 : decide (s.kind = 6) = false := decide_eq_false hk
  clear hk
  go_upto_region 8 with fail
  refine HD.wl_begin ?_
  refine HD.wl_takeF (d := some 68) (v := (.bool false)) (by kernel_rfl) rfl rfl (y_eqi (n := 6) d1 rfl (by kernel_rfl) (by kernel_rfl)) ?_
  refine HD.wl_takeF (d := some 67) (v := (.bool false)) (by kernel_rfl) rfl rfl (y_assign rfl (by kernel_rfl)) ?_
  refine HD.wl_norm (a' := ⟨List.toArray ((p)::(.pointer (some ⟨r, 0, none⟩))::(.agg s.L.toArray)::undef::undef::(.pointer (some ⟨h0, 0, none⟩))::(.bool false)::undef::undef::undef::undef::(.pointer (some ⟨h0, 0, none⟩))::(.int .i64 s.kind)::(.bool false)::(.bool false)::undef::undef::undef::undef::undef::undef::undef::undef::undef::undef::undef::undef::undef::undef::undef::undef::undef::undef::(.bool false)::(.bool false)::undef::undef::undef::undef::undef::undef::undef::undef::undef::undef::undef::undef::undef::(.bool false)::(.bool false)::undef::undef::undef::undef::undef::undef::undef::undef::undef::undef::undef::undef::undef::undef::undef::undef::undef::(.bool false)::(.bool false)::undef::undef::undef::undef::undef::undef::undef::undef::undef::undef::undef::undef::undef::undef::undef::undef::undef::undef::undef::undef::undef::undef::[]), []⟩) (by kernel_rfl) ?_
  refine HD.wl_done ?_
  clear d1
  go_wp2_with fail
  go_ret
  exact ⟨rfl, HC.out.fin _ HA.out.1⟩
end Go.Proofs.Ytknbehjhaaidoaa.IX

