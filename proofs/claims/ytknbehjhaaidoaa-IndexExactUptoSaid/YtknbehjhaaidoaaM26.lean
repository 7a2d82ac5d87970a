/- IndexExact: the texts ExC of this seat, one behind the other. -/
import Derived.Test.YtknbehjhaaidoaaM25
/- IndexExact's asks: a query of an index answers as the document's does. -/
namespace Go.Proofs.Ytknbehjhaaidoaa.HD
open Go.RowKit Mem
theorem wa_callG {a : Act} {w : World} {ops : Array Oper} {Q : Exit → Act → World → Prop} {d : Option Tmp} {md : Region.Mode} {S : World → Prop} (A : Value → Act) {i : Nat} {oi : Oper} {fuel : Nat} {listed : Array Bool} (hi : ops[i]? = some oi) (hr : Region.ready md ops listed = [i]) (hd : oi.dst = d) (hw : Region.wanted oi (yielded ops a.tmps) = true) (ha : ∀ v, a.put d v = A v)
    (h : ∀ K : Act → World → Prop, (∀ (v : Value) (w' : World), S w' → (S w' → WA md ops Q S fuel (listed.setIfInBounds i true) (A v) w') → K (a.put oi.dst v) w') → Oper.wp Try.prog oi a w K Q) : WA md ops Q S (fuel + 1) listed a w :=
  ⟨readyD hi hr hd hw fun K hK => h K fun v w' h1 h2 => hK v w' h1 fun s => by rw [ha v]; exact (h2 s).out⟩
theorem wl_norm {a a' : Act} {w : World} {ops : Array Oper} {Q : Exit → Act → World → Prop} {l : List Oper} (ha : a = a') (h : WL ops Q l a' w) : WL ops Q l a w := by
  rw [ha]; exact h
theorem wa_norm {a a' : Act} {w : World} {ops : Array Oper} {Q : Exit → Act → World → Prop} {md : Region.Mode} {S : World → Prop} {fuel : Nat} {listed : Array Bool} (ha : a = a') (h : WA md ops Q S fuel listed a' w) : WA md ops Q S fuel listed a w := by
  rw [ha]; exact h
end Go.Proofs.Ytknbehjhaaidoaa.HD
namespace Go.Proofs.Ytknbehjhaaidoaa.IX
open Go.RowKit Go.Shelf Mem HD TB
set_option linter.unusedVariables false
set_option linter.unusedSimpArgs false
theorem fresh_ent2 (w : World) (e : Ent) : Mod no w ((w.alloc (.cells e0.L.toArray 56)).setCells w.heap.size 0 e.L) ∧ Blk ((w.alloc (.cells e0.L.toArray 56)).setCells w.heap.size 0 e.L) w.heap.size 56 e.L.toArray :=
  ⟨fresh_ent w e, blk_sets w.heap.size e.L 0 e0.L _ (Blk.new w 56 e0.L.toArray) (Nat.le_refl 4)⟩
/-- What asks and changes know when their step lies in memory. -/
structure AK (w w2 : World) (p : Value) (r : Nat) (v : Value) (l : List (Key × Ent)) (s : Stp) (h0 : Nat) : Prop where
  m : Mod no w w2
  rr : RAt w2 r v l
  vl : ∀ b, v.ownBlock = some b → b < w2.heap.size
  nk : NK l
  hl : l.length ≤ 1048576
  st : StAt w2 h0 s
theorem AK.mod {w w2 w3 : World} {p : Value} {r : Nat} {v : Value} {l : List (Key × Ent)} {s : Stp} {h0 : Nat} (h : AK w w2 p r v l s h0) (m : Mod no w2 w3) : AK w w3 p r v l s h0 :=
  ⟨h.m.and_then m, h.rr.mod m (fun c => c) (fun _ _ c => c), fun b e => Nat.lt_of_lt_of_le (h.vl b e) m.size, h.nk, h.hl, h.st.mod m (fun c => c)⟩
set_option maxRecDepth 100000 in
set_option maxHeartbeats 4000000 in
theorem asks_any {w : World} {p : Value} {r : Nat} {v : Value} {l : List (Key × Ent)} (hq : Qs w p l) (hr : RAt w r v l) (hv : ∀ b, v.ownBlock = some b → b < w.heap.size) (hs : NK l) (hl : l.length ≤ 1048576) (s : Stp) :
    Calls Try.prog 29 #[p, .pointer (some ⟨r, 0, none⟩), .agg s.L.toArray] w fun e w' => e = .returned (.bool true) ∧ Mod no w w' := by
  have hw : Mod no w (w.alloc (.cells s.L.toArray 73)) := (Mod.refl no w).alloc _
  have HA := Lib.hid (And.intro (show AK w (w.alloc (.cells s.L.toArray 73)) p r v l s w.heap.size from ⟨hw, hr.mod hw (fun c => c) (fun _ _ c => c), fun b e => Nat.lt_of_lt_of_le (hv b e) hw.size, hs, hl, stAt (blk_range (Blk.new w 73 s.L.toArray))⟩) (hq.mod hw))
  clear hq hr hv hs hl hw
  go_enter Try.func29, Try.ntmps29
  go_upto_region 1 with fail
  obtain ⟨w2, hw2⟩ : ∃ w2, w2 = w.alloc (.cells s.L.toArray 73) := ⟨_, rfl⟩
  rw [← hw2] at HA ⊢
  clear hw2
  obtain ⟨h0, hh0⟩ : ∃ h0, h0 = w.heap.size := ⟨_, rfl⟩
  rw [← hh0] at HA ⊢
  clear hh0
  refine HD.wl_begin ?_
  refine HD.wl_takeF (d := some 15) (v := (.pointer (some ⟨h0, 0, none⟩))) (by kernel_rfl) rfl rfl (y_fst (k := 0) (by decide) rfl (by kernel_rfl)) ?_
  refine HD.wl_takeF (d := some 16) (v := (.int .i64 s.kind)) (by kernel_rfl) rfl rfl (y_int rfl (by kernel_rfl) HA.out.1.st.kind) ?_
  refine HD.wl_norm (a' := ⟨List.toArray ((p)::(.pointer (some ⟨r, 0, none⟩))::(.agg s.L.toArray)::undef::undef::(.pointer (some ⟨h0, 0, none⟩))::(.bool false)::undef::undef::undef::undef::undef::undef::undef::undef::(.pointer (some ⟨h0, 0, none⟩))::(.int .i64 s.kind)::undef::undef::undef::undef::undef::undef::undef::undef::undef::undef::undef::undef::undef::undef::undef::undef::undef::undef::undef::undef::undef::undef::undef::undef::undef::undef::undef::undef::undef::undef::undef::undef::undef::undef::undef::undef::undef::undef::undef::undef::undef::undef::undef::undef::undef::undef::undef::undef::undef::undef::undef::undef::undef::undef::undef::undef::undef::undef::undef::undef::undef::undef::undef::undef::undef::undef::undef::undef::undef::undef::undef::undef::undef::undef::undef::undef::undef::undef::undef::undef::undef::undef::undef::undef::undef::undef::undef::undef::undef::undef::[]), []⟩) (by kernel_rfl) ?_
  refine HD.wl_done ?_
  by_cases hk : s.kind = 2
  · have d1 : decide (s.kind = 2) = true := decide_eq_true hk
    clear hk
    go_upto_region 2 with fail
    refine HD.wl_begin ?_
    refine HD.wl_takeF (d := some 18) (v := (.bool true)) (by kernel_rfl) rfl rfl (y_eqi (n := 2) d1 rfl (by kernel_rfl) (by kernel_rfl)) ?_
    refine HD.wl_takeF (d := some 17) (v := (.bool true)) (by kernel_rfl) rfl rfl (y_assign rfl (by kernel_rfl)) ?_
    refine HD.wl_norm (a' := ⟨List.toArray ((p)::(.pointer (some ⟨r, 0, none⟩))::(.agg s.L.toArray)::undef::undef::(.pointer (some ⟨h0, 0, none⟩))::(.bool false)::undef::undef::undef::undef::undef::undef::undef::undef::(.pointer (some ⟨h0, 0, none⟩))::(.int .i64 s.kind)::(.bool true)::(.bool true)::undef::undef::undef::undef::undef::undef::undef::undef::undef::undef::undef::undef::undef::undef::undef::undef::undef::undef::undef::undef::undef::undef::undef::undef::undef::undef::undef::undef::undef::undef::undef::undef::undef::undef::undef::undef::undef::undef::undef::undef::undef::undef::undef::undef::undef::undef::undef::undef::undef::undef::undef::undef::undef::undef::undef::undef::undef::undef::undef::undef::undef::undef::undef::undef::undef::undef::undef::undef::undef::undef::undef::undef::undef::undef::undef::undef::undef::undef::undef::undef::undef::undef::undef::undef::undef::undef::undef::undef::[]), []⟩) (by kernel_rfl) ?_
    refine HD.wl_done ?_
    go_upto_region 3 with fail
    refine HD.wl_begin ?_
    refine HD.wl_takeF (d := some 20) (v := (p)) (by kernel_rfl) rfl rfl (y_move rfl (by kernel_rfl)) ?_
    refine HD.wl_takeF (d := some 21) (v := (.pointer (some ⟨h0, 3, none⟩))) (by kernel_rfl) rfl rfl (y_fst (k := 3) (by decide) rfl (by kernel_rfl)) ?_
    refine HD.wl_takeF (d := some 22) (v := (.agg s.key.L.toArray)) (by kernel_rfl) rfl rfl (y_key rfl (by kernel_rfl) HA.out.1.st.key) ?_
    refine HD.wl_callG _ (d := some 23) (by kernel_rfl) rfl (fun _ => rfl) fun K hK => ?_
    refine op_c2 (fun _ _ => rfl) rfl (by kernel_rfl) (by kernel_rfl) (HA.out.2.get _ s.key (Mod.refl no w2)) ?_
    rintro e w3 ⟨⟨q, rfl, hf⟩, hm3⟩
    rw [gotV_eq]
    have HF := Lib.hid hf
    have HM := Lib.hid hm3
    clear hf hm3
    refine ⟨_, rfl, hK _ _ ?_⟩
    clear hK K
    refine HD.wl_takeF (d := some 19) (v := (.tuple #[.agg (q.getD e0).L.toArray, .bool q.isSome])) (by kernel_rfl) rfl rfl (y_move rfl (by kernel_rfl)) ?_
    refine HD.wl_takeF (d := some 24) (v := (.agg (q.getD e0).L.toArray)) (by kernel_rfl) rfl rfl (y_ext (vs := #[.agg (q.getD e0).L.toArray, .bool q.isSome]) rfl (by kernel_rfl) (by kernel_rfl)) ?_
    refine HD.wl_takeF (d := some 25) (v := (.bool q.isSome)) (by kernel_rfl) rfl rfl (y_ext (vs := #[.agg (q.getD e0).L.toArray, .bool q.isSome]) rfl (by kernel_rfl) (by kernel_rfl)) ?_
    obtain ⟨h4, hh8⟩ : ∃ h4, h4 = w3.heap.size := ⟨_, rfl⟩
    refine HD.wl_takeF (d := some 7) (v := (.pointer (some ⟨h4, 0, none⟩))) (by kernel_rfl) rfl rfl (by rw [hh8]; exact y_allocE rfl) ?_
    refine wl_entF rfl h4 (q.getD e0) (by kernel_rfl) rfl rfl (by kernel_rfl) (by kernel_rfl) (by rw [hh8]; exact Blk.new _ _ _) ?_
    have hF := fresh_ent2 w3 (q.getD e0)
    rw [← hh8] at hF
    obtain ⟨w4, hw8⟩ : ∃ w4, w4 = ((w3.alloc (.cells e0.L.toArray 56)).setCells h4 0 ((q.getD e0).L)) := ⟨_, rfl⟩
    change HD.WL _ _ _ _ ((w3.alloc (.cells e0.L.toArray 56)).setCells h4 0 ((q.getD e0).L))
    rw [← hw8] at hF ⊢
    clear hw8
    have H4 := Lib.hid (And.intro (HA.out.1.mod (HM.out.and_then hF.1)) hF.2)
    clear hF hh8
    refine HD.wl_takeF (d := some 8) (v := (.bool q.isSome)) (by kernel_rfl) rfl rfl (y_assign rfl (by kernel_rfl)) ?_
    refine HD.wl_norm (a' := ⟨List.toArray ((p)::(.pointer (some ⟨r, 0, none⟩))::(.agg s.L.toArray)::undef::undef::(.pointer (some ⟨h0, 0, none⟩))::(.bool false)::(.pointer (some ⟨h4, 0, none⟩))::(.bool q.isSome)::undef::undef::undef::undef::undef::undef::(.pointer (some ⟨h0, 0, none⟩))::(.int .i64 s.kind)::(.bool true)::(.bool true)::(.tuple #[.agg (q.getD e0).L.toArray, .bool q.isSome])::(p)::(.pointer (some ⟨h0, 3, none⟩))::(.agg s.key.L.toArray)::(.tuple #[.agg (q.getD e0).L.toArray, .bool q.isSome])::(.agg (q.getD e0).L.toArray)::(.bool q.isSome)::undef::undef::undef::undef::undef::undef::undef::undef::undef::undef::undef::undef::undef::undef::undef::undef::undef::undef::undef::undef::undef::undef::undef::undef::undef::undef::undef::undef::undef::undef::undef::undef::undef::undef::undef::undef::undef::undef::undef::undef::undef::undef::undef::undef::undef::undef::undef::undef::undef::undef::undef::undef::undef::undef::undef::undef::undef::undef::undef::undef::undef::undef::undef::undef::undef::undef::undef::undef::undef::undef::undef::undef::undef::undef::undef::undef::undef::undef::undef::undef::undef::[]), []⟩) (by kernel_rfl) ?_
    refine HD.wl_done ?_
    go_upto_region 4 with fail
    refine HD.wl_begin ?_
    refine HD.wl_takeF (d := some 27) (v := (.pointer (some ⟨r, 0, none⟩))) (by kernel_rfl) rfl rfl (y_move rfl (by kernel_rfl)) ?_
    refine HD.wl_takeF (d := some 28) (v := (.pointer (some ⟨h0, 3, none⟩))) (by kernel_rfl) rfl rfl (y_fst (k := 3) (by decide) rfl (by kernel_rfl)) ?_
    refine HD.wl_takeF (d := some 29) (v := (.agg s.key.L.toArray)) (by kernel_rfl) rfl rfl (y_key rfl (by kernel_rfl) H4.out.1.st.key) ?_
    refine HD.wl_callG _ (d := some 30) (by kernel_rfl) rfl (fun _ => rfl) fun K hK => ?_
    refine op_c2 (fun _ _ => rfl) rfl (by kernel_rfl) (by kernel_rfl) (rget_any H4.out.1.rr H4.out.1.nk (by have := H4.out.1.hl; omega) s.key) ?_
    rintro e w5 ⟨⟨q5, rfl, hf⟩, hm5⟩
    have eq5 : q5 = q := hf.same HF.out
    subst eq5
    rw [gotV_eq]
    have HM5 := Lib.hid hm5
    clear hf hm5
    refine ⟨_, rfl, hK _ _ ?_⟩
    clear hK K
    refine HD.wl_takeF (d := some 26) (v := (.tuple #[.agg (q5.getD e0).L.toArray, .bool q5.isSome])) (by kernel_rfl) rfl rfl (y_move rfl (by kernel_rfl)) ?_
    refine HD.wl_takeF (d := some 31) (v := (.agg (q5.getD e0).L.toArray)) (by kernel_rfl) rfl rfl (y_ext (vs := #[.agg (q5.getD e0).L.toArray, .bool q5.isSome]) rfl (by kernel_rfl) (by kernel_rfl)) ?_
    refine HD.wl_takeF (d := some 32) (v := (.bool q5.isSome)) (by kernel_rfl) rfl rfl (y_ext (vs := #[.agg (q5.getD e0).L.toArray, .bool q5.isSome]) rfl (by kernel_rfl) (by kernel_rfl)) ?_
    obtain ⟨h6, hh8⟩ : ∃ h6, h6 = w5.heap.size := ⟨_, rfl⟩
    refine HD.wl_takeF (d := some 9) (v := (.pointer (some ⟨h6, 0, none⟩))) (by kernel_rfl) rfl rfl (by rw [hh8]; exact y_allocE rfl) ?_
    refine wl_entF rfl h6 (q5.getD e0) (by kernel_rfl) rfl rfl (by kernel_rfl) (by kernel_rfl) (by rw [hh8]; exact Blk.new _ _ _) ?_
    have hF := fresh_ent2 w5 (q5.getD e0)
    rw [← hh8] at hF
    obtain ⟨w6, hw8⟩ : ∃ w6, w6 = ((w5.alloc (.cells e0.L.toArray 56)).setCells h6 0 ((q5.getD e0).L)) := ⟨_, rfl⟩
    change HD.WL _ _ _ _ ((w5.alloc (.cells e0.L.toArray 56)).setCells h6 0 ((q5.getD e0).L))
    rw [← hw8] at hF ⊢
    clear hw8
    have H6 := Lib.hid (And.intro (H4.out.1.mod (HM5.out.and_then hF.1)) (And.intro (H4.out.2.mod (HM5.out.and_then hF.1) (fun c => c)) hF.2))
    clear hF hh8
    refine HD.wl_takeF (d := some 10) (v := (.bool q5.isSome)) (by kernel_rfl) rfl rfl (y_assign rfl (by kernel_rfl)) ?_
    refine HD.wl_norm (a' := ⟨List.toArray ((p)::(.pointer (some ⟨r, 0, none⟩))::(.agg s.L.toArray)::undef::undef::(.pointer (some ⟨h0, 0, none⟩))::(.bool false)::(.pointer (some ⟨h4, 0, none⟩))::(.bool q5.isSome)::(.pointer (some ⟨h6, 0, none⟩))::(.bool q5.isSome)::undef::undef::undef::undef::(.pointer (some ⟨h0, 0, none⟩))::(.int .i64 s.kind)::(.bool true)::(.bool true)::(.tuple #[.agg (q5.getD e0).L.toArray, .bool q5.isSome])::(p)::(.pointer (some ⟨h0, 3, none⟩))::(.agg s.key.L.toArray)::(.tuple #[.agg (q5.getD e0).L.toArray, .bool q5.isSome])::(.agg (q5.getD e0).L.toArray)::(.bool q5.isSome)::(.tuple #[.agg (q5.getD e0).L.toArray, .bool q5.isSome])::(.pointer (some ⟨r, 0, none⟩))::(.pointer (some ⟨h0, 3, none⟩))::(.agg s.key.L.toArray)::(.tuple #[.agg (q5.getD e0).L.toArray, .bool q5.isSome])::(.agg (q5.getD e0).L.toArray)::(.bool q5.isSome)::undef::undef::undef::undef::undef::undef::undef::undef::undef::undef::undef::undef::undef::undef::undef::undef::undef::undef::undef::undef::undef::undef::undef::undef::undef::undef::undef::undef::undef::undef::undef::undef::undef::undef::undef::undef::undef::undef::undef::undef::undef::undef::undef::undef::undef::undef::undef::undef::undef::undef::undef::undef::undef::undef::undef::undef::undef::undef::undef::undef::undef::undef::undef::undef::undef::undef::undef::undef::undef::undef::undef::undef::undef::undef::[]), []⟩) (by kernel_rfl) ?_
    refine HD.wl_done ?_
    go_upto_region 5 with fail
    refine HD.wl_begin ?_
    refine HD.wl_takeF (d := some 33) (v := (.agg (q5.getD e0).L.toArray)) (by kernel_rfl) rfl rfl (y_ent rfl (by kernel_rfl) (blk_range H6.out.2.1)) ?_
    refine HD.wl_takeF (d := some 34) (v := (.agg (q5.getD e0).L.toArray)) (by kernel_rfl) rfl rfl (y_ent rfl (by kernel_rfl) (blk_range H6.out.2.2)) ?_
    refine HD.wl_takeF (d := some 35) (v := (.bool true)) (by kernel_rfl) rfl rfl (y_eqE1 (e := q5.getD e0) rfl (by kernel_rfl) (by kernel_rfl)) ?_
    refine HD.wl_takeF (d := some 36) (v := (.bool true)) (by kernel_rfl) rfl rfl (y_move rfl (by kernel_rfl)) ?_
    refine HD.wl_takeF (d := some 37) (v := (.bool q5.isSome)) (by kernel_rfl) rfl rfl (y_move rfl (by kernel_rfl)) ?_
    refine HD.wl_takeF (d := some 38) (v := (.bool q5.isSome)) (by kernel_rfl) rfl rfl (y_move rfl (by kernel_rfl)) ?_
    refine HD.wl_takeF (d := some 39) (v := (.bool true)) (by kernel_rfl) rfl rfl (y_eqb1 (b := q5.isSome) rfl (by kernel_rfl) (by kernel_rfl)) ?_
    refine HD.wl_takeF (d := some 40) (v := (.bool true)) (by kernel_rfl) rfl rfl (y_pick (b := true) rfl (by kernel_rfl) (by kernel_rfl)) ?_
    refine HD.wl_takeF (d := some 6) (v := (.bool true)) (by kernel_rfl) rfl rfl (y_assign rfl (by kernel_rfl)) ?_
    refine HD.wl_norm (a' := ⟨List.toArray ((p)::(.pointer (some ⟨r, 0, none⟩))::(.agg s.L.toArray)::undef::undef::(.pointer (some ⟨h0, 0, none⟩))::(.bool true)::(.pointer (some ⟨h4, 0, none⟩))::(.bool q5.isSome)::(.pointer (some ⟨h6, 0, none⟩))::(.bool q5.isSome)::undef::undef::undef::undef::(.pointer (some ⟨h0, 0, none⟩))::(.int .i64 s.kind)::(.bool true)::(.bool true)::(.tuple #[.agg (q5.getD e0).L.toArray, .bool q5.isSome])::(p)::(.pointer (some ⟨h0, 3, none⟩))::(.agg s.key.L.toArray)::(.tuple #[.agg (q5.getD e0).L.toArray, .bool q5.isSome])::(.agg (q5.getD e0).L.toArray)::(.bool q5.isSome)::(.tuple #[.agg (q5.getD e0).L.toArray, .bool q5.isSome])::(.pointer (some ⟨r, 0, none⟩))::(.pointer (some ⟨h0, 3, none⟩))::(.agg s.key.L.toArray)::(.tuple #[.agg (q5.getD e0).L.toArray, .bool q5.isSome])::(.agg (q5.getD e0).L.toArray)::(.bool q5.isSome)::(.agg (q5.getD e0).L.toArray)::(.agg (q5.getD e0).L.toArray)::(.bool true)::(.bool true)::(.bool q5.isSome)::(.bool q5.isSome)::(.bool true)::(.bool true)::undef::undef::undef::undef::undef::undef::undef::undef::undef::undef::undef::undef::undef::undef::undef::undef::undef::undef::undef::undef::undef::undef::undef::undef::undef::undef::undef::undef::undef::undef::undef::undef::undef::undef::undef::undef::undef::undef::undef::undef::undef::undef::undef::undef::undef::undef::undef::undef::undef::undef::undef::undef::undef::undef::undef::undef::undef::undef::undef::undef::undef::undef::undef::undef::undef::undef::[]), []⟩) (by kernel_rfl) ?_
    refine HD.wl_done ?_
    go_wp2_with fail
    go_ret
    exact ⟨rfl, H6.out.1.m⟩
  have d1 : decide (s.kind = 2) = false := decide_eq_false hk
  clear hk
  go_upto_region 2 with fail
  refine HD.wl_begin ?_
  refine HD.wl_takeF (d := some 18) (v := (.bool false)) (by kernel_rfl) rfl rfl (y_eqi (n := 2) d1 rfl (by kernel_rfl) (by kernel_rfl)) ?_
  refine HD.wl_takeF (d := some 17) (v := (.bool false)) (by kernel_rfl) rfl rfl (y_assign rfl (by kernel_rfl)) ?_
  refine HD.wl_norm (a' := ⟨List.toArray ((p)::(.pointer (some ⟨r, 0, none⟩))::(.agg s.L.toArray)::undef::undef::(.pointer (some ⟨h0, 0, none⟩))::(.bool false)::undef::undef::undef::undef::undef::undef::undef::undef::(.pointer (some ⟨h0, 0, none⟩))::(.int .i64 s.kind)::(.bool false)::(.bool false)::undef::undef::undef::undef::undef::undef::undef::undef::undef::undef::undef::undef::undef::undef::undef::undef::undef::undef::undef::undef::undef::undef::undef::undef::undef::undef::undef::undef::undef::undef::undef::undef::undef::undef::undef::undef::undef::undef::undef::undef::undef::undef::undef::undef::undef::undef::undef::undef::undef::undef::undef::undef::undef::undef::undef::undef::undef::undef::undef::undef::undef::undef::undef::undef::undef::undef::undef::undef::undef::undef::undef::undef::undef::undef::undef::undef::undef::undef::undef::undef::undef::undef::undef::undef::undef::undef::undef::undef::[]), []⟩) (by kernel_rfl) ?_
  refine HD.wl_done ?_
  clear d1
  by_cases hk : s.kind = 7
  · have d1 : decide (s.kind = 7) = true := decide_eq_true hk
    clear hk
    go_upto_region 6 with fail
    refine HD.wl_begin ?_
    refine HD.wl_takeF (d := some 42) (v := (.bool true)) (by kernel_rfl) rfl rfl (y_eqi (n := 7) d1 rfl (by kernel_rfl) (by kernel_rfl)) ?_
    refine HD.wl_takeF (d := some 41) (v := (.bool true)) (by kernel_rfl) rfl rfl (y_assign rfl (by kernel_rfl)) ?_
    refine HD.wl_norm (a' := ⟨List.toArray ((p)::(.pointer (some ⟨r, 0, none⟩))::(.agg s.L.toArray)::undef::undef::(.pointer (some ⟨h0, 0, none⟩))::(.bool false)::undef::undef::undef::undef::undef::undef::undef::undef::(.pointer (some ⟨h0, 0, none⟩))::(.int .i64 s.kind)::(.bool false)::(.bool false)::undef::undef::undef::undef::undef::undef::undef::undef::undef::undef::undef::undef::undef::undef::undef::undef::undef::undef::undef::undef::undef::undef::(.bool true)::(.bool true)::undef::undef::undef::undef::undef::undef::undef::undef::undef::undef::undef::undef::undef::undef::undef::undef::undef::undef::undef::undef::undef::undef::undef::undef::undef::undef::undef::undef::undef::undef::undef::undef::undef::undef::undef::undef::undef::undef::undef::undef::undef::undef::undef::undef::undef::undef::undef::undef::undef::undef::undef::undef::undef::undef::undef::undef::undef::undef::undef::undef::undef::undef::undef::undef::[]), []⟩) (by kernel_rfl) ?_
    refine HD.wl_done ?_
    obtain ⟨q, hq⟩ : ∃ q, q = l.find? fun x => asked s.any s.key x.1 := ⟨_, rfl⟩
    have HQ := Lib.hid hq
    clear hq
    go_upto_region 7 with fail
    refine HD.wl_begin ?_
    refine HD.wl_takeF (d := some 44) (v := (p)) (by kernel_rfl) rfl rfl (y_move rfl (by kernel_rfl)) ?_
    refine HD.wl_takeF (d := some 45) (v := (.pointer (some ⟨h0, 3, none⟩))) (by kernel_rfl) rfl rfl (y_fst (k := 3) (by decide) rfl (by kernel_rfl)) ?_
    refine HD.wl_takeF (d := some 46) (v := (.agg s.key.L.toArray)) (by kernel_rfl) rfl rfl (y_key rfl (by kernel_rfl) HA.out.1.st.key) ?_
    refine HD.wl_takeF (d := some 47) (v := (.pointer (some ⟨h0, 44, none⟩))) (by kernel_rfl) rfl rfl (y_fst (k := 8) (by decide) rfl (by kernel_rfl)) ?_
    refine HD.wl_takeF (d := some 48) (v := (.bool s.any)) (by kernel_rfl) rfl rfl (y_bool rfl (by kernel_rfl) HA.out.1.st.any (by kernel_rfl)) ?_
    refine HD.wl_callF (d := some 49) (v := (.tuple #[.agg (kvL q).toArray, .bool q.isSome])) (by kernel_rfl) rfl rfl fun K hK => ?_
    refine op_c3 (fun _ _ => rfl) rfl (by kernel_rfl) (by kernel_rfl) (by kernel_rfl) (HA.out.2.next _ s.key s.any (Mod.refl no w2)) ?_
    rintro e w3 ⟨he, hm3⟩
    rw [← HQ.out] at he
    subst he
    have HM := Lib.hid hm3
    clear hm3
    refine ⟨_, rfl, hK _ ?_⟩
    clear hK K
    refine HD.wl_takeF (d := some 43) (v := (.tuple #[.agg (kvL q).toArray, .bool q.isSome])) (by kernel_rfl) rfl rfl (y_move rfl (by kernel_rfl)) ?_
    refine HD.wl_takeF (d := some 50) (v := (.agg (kvL q).toArray)) (by kernel_rfl) rfl rfl (y_ext (vs := #[.agg (kvL q).toArray, .bool q.isSome]) rfl (by kernel_rfl) (by kernel_rfl)) ?_
    refine HD.wl_takeF (d := some 51) (v := (.bool q.isSome)) (by kernel_rfl) rfl rfl (y_ext (vs := #[.agg (kvL q).toArray, .bool q.isSome]) rfl (by kernel_rfl) (by kernel_rfl)) ?_
    obtain ⟨h4, hh8⟩ : ∃ h4, h4 = w3.heap.size := ⟨_, rfl⟩
    refine HD.wl_takeF (d := some 11) (v := (.pointer (some ⟨h4, 0, none⟩))) (by kernel_rfl) rfl rfl (by rw [hh8]; exact y_allocKV rfl) ?_
    refine wl_kvF rfl h4 q (by kernel_rfl) rfl rfl (by kernel_rfl) (by kernel_rfl) (by rw [hh8]; exact Blk.new _ _ _) ?_
    have hF := fresh_kv w3 q
    rw [← hh8] at hF
    obtain ⟨w4, hw8⟩ : ∃ w4, w4 = ((w3.alloc (.cells (kvL none).toArray 58)).setCells h4 0 (kvL q)) := ⟨_, rfl⟩
    change HD.WL _ _ _ _ ((w3.alloc (.cells (kvL none).toArray 58)).setCells h4 0 (kvL q))
    rw [← hw8] at hF ⊢
    clear hw8
    have H4 := Lib.hid (And.intro (HA.out.1.mod (HM.out.and_then hF.1)) hF.2)
    clear hF hh8
    refine HD.wl_takeF (d := some 12) (v := (.bool q.isSome)) (by kernel_rfl) rfl rfl (y_assign rfl (by kernel_rfl)) ?_
    refine HD.wl_norm (a' := ⟨List.toArray ((p)::(.pointer (some ⟨r, 0, none⟩))::(.agg s.L.toArray)::undef::undef::(.pointer (some ⟨h0, 0, none⟩))::(.bool false)::undef::undef::undef::undef::(.pointer (some ⟨h4, 0, none⟩))::(.bool q.isSome)::undef::undef::(.pointer (some ⟨h0, 0, none⟩))::(.int .i64 s.kind)::(.bool false)::(.bool false)::undef::undef::undef::undef::undef::undef::undef::undef::undef::undef::undef::undef::undef::undef::undef::undef::undef::undef::undef::undef::undef::undef::(.bool true)::(.bool true)::(.tuple #[.agg (kvL q).toArray, .bool q.isSome])::(p)::(.pointer (some ⟨h0, 3, none⟩))::(.agg s.key.L.toArray)::(.pointer (some ⟨h0, 44, none⟩))::(.bool s.any)::(.tuple #[.agg (kvL q).toArray, .bool q.isSome])::(.agg (kvL q).toArray)::(.bool q.isSome)::undef::undef::undef::undef::undef::undef::undef::undef::undef::undef::undef::undef::undef::undef::undef::undef::undef::undef::undef::undef::undef::undef::undef::undef::undef::undef::undef::undef::undef::undef::undef::undef::undef::undef::undef::undef::undef::undef::undef::undef::undef::undef::undef::undef::undef::undef::undef::undef::undef::undef::undef::undef::undef::undef::undef::[]), []⟩) (by kernel_rfl) ?_
    refine HD.wl_done ?_
    go_upto_region 8 with fail
    refine HD.wl_begin ?_
    refine HD.wl_takeF (d := some 53) (v := (.pointer (some ⟨r, 0, none⟩))) (by kernel_rfl) rfl rfl (y_move rfl (by kernel_rfl)) ?_
    refine HD.wl_takeF (d := some 54) (v := (.pointer (some ⟨h0, 3, none⟩))) (by kernel_rfl) rfl rfl (y_fst (k := 3) (by decide) rfl (by kernel_rfl)) ?_
    refine HD.wl_takeF (d := some 55) (v := (.agg s.key.L.toArray)) (by kernel_rfl) rfl rfl (y_key rfl (by kernel_rfl) H4.out.1.st.key) ?_
    refine HD.wl_takeF (d := some 56) (v := (.pointer (some ⟨h0, 44, none⟩))) (by kernel_rfl) rfl rfl (y_fst (k := 8) (by decide) rfl (by kernel_rfl)) ?_
    refine HD.wl_takeF (d := some 57) (v := (.bool s.any)) (by kernel_rfl) rfl rfl (y_bool rfl (by kernel_rfl) H4.out.1.st.any (by kernel_rfl)) ?_
    refine HD.wl_callF (d := some 58) (v := (.tuple #[.agg (kvL q).toArray, .bool q.isSome])) (by kernel_rfl) rfl rfl fun K hK => ?_
    refine op_c3 (fun _ _ => rfl) rfl (by kernel_rfl) (by kernel_rfl) (by kernel_rfl) (rnext_any H4.out.1.rr (by have := H4.out.1.hl; omega) s.key s.any) ?_
    rintro e w5 ⟨⟨q5, rfl, he⟩, hm5⟩
    rw [← HQ.out] at he
    have he := he.symm
    subst he
    have HM5 := Lib.hid hm5
    clear hm5
    refine ⟨_, rfl, hK _ ?_⟩
    clear hK K
    refine HD.wl_takeF (d := some 52) (v := (.tuple #[.agg (kvL q).toArray, .bool q.isSome])) (by kernel_rfl) rfl rfl (y_move rfl (by kernel_rfl)) ?_
    refine HD.wl_takeF (d := some 59) (v := (.agg (kvL q).toArray)) (by kernel_rfl) rfl rfl (y_ext (vs := #[.agg (kvL q).toArray, .bool q.isSome]) rfl (by kernel_rfl) (by kernel_rfl)) ?_
    refine HD.wl_takeF (d := some 60) (v := (.bool q.isSome)) (by kernel_rfl) rfl rfl (y_ext (vs := #[.agg (kvL q).toArray, .bool q.isSome]) rfl (by kernel_rfl) (by kernel_rfl)) ?_
    obtain ⟨h6, hh8⟩ : ∃ h6, h6 = w5.heap.size := ⟨_, rfl⟩
    refine HD.wl_takeF (d := some 13) (v := (.pointer (some ⟨h6, 0, none⟩))) (by kernel_rfl) rfl rfl (by rw [hh8]; exact y_allocKV rfl) ?_
    refine wl_kvF rfl h6 q (by kernel_rfl) rfl rfl (by kernel_rfl) (by kernel_rfl) (by rw [hh8]; exact Blk.new _ _ _) ?_
    have hF := fresh_kv w5 q
    rw [← hh8] at hF
    obtain ⟨w6, hw8⟩ : ∃ w6, w6 = ((w5.alloc (.cells (kvL none).toArray 58)).setCells h6 0 (kvL q)) := ⟨_, rfl⟩
    change HD.WL _ _ _ _ ((w5.alloc (.cells (kvL none).toArray 58)).setCells h6 0 (kvL q))
    rw [← hw8] at hF ⊢
    clear hw8
    have H6 := Lib.hid (And.intro (H4.out.1.mod (HM5.out.and_then hF.1)) (And.intro (H4.out.2.mod (HM5.out.and_then hF.1) (fun c => c)) hF.2))
    clear hF hh8
    refine HD.wl_takeF (d := some 14) (v := (.bool q.isSome)) (by kernel_rfl) rfl rfl (y_assign rfl (by kernel_rfl)) ?_
    refine HD.wl_norm (a' := ⟨List.toArray ((p)::(.pointer (some ⟨r, 0, none⟩))::(.agg s.L.toArray)::undef::undef::(.pointer (some ⟨h0, 0, none⟩))::(.bool false)::undef::undef::undef::undef::(.pointer (some ⟨h4, 0, none⟩))::(.bool q.isSome)::(.pointer (some ⟨h6, 0, none⟩))::(.bool q.isSome)::(.pointer (some ⟨h0, 0, none⟩))::(.int .i64 s.kind)::(.bool false)::(.bool false)::undef::undef::undef::undef::undef::undef::undef::undef::undef::undef::undef::undef::undef::undef::undef::undef::undef::undef::undef::undef::undef::undef::(.bool true)::(.bool true)::(.tuple #[.agg (kvL q).toArray, .bool q.isSome])::(p)::(.pointer (some ⟨h0, 3, none⟩))::(.agg s.key.L.toArray)::(.pointer (some ⟨h0, 44, none⟩))::(.bool s.any)::(.tuple #[.agg (kvL q).toArray, .bool q.isSome])::(.agg (kvL q).toArray)::(.bool q.isSome)::(.tuple #[.agg (kvL q).toArray, .bool q.isSome])::(.pointer (some ⟨r, 0, none⟩))::(.pointer (some ⟨h0, 3, none⟩))::(.agg s.key.L.toArray)::(.pointer (some ⟨h0, 44, none⟩))::(.bool s.any)::(.tuple #[.agg (kvL q).toArray, .bool q.isSome])::(.agg (kvL q).toArray)::(.bool q.isSome)::undef::undef::undef::undef::undef::undef::undef::undef::undef::undef::undef::undef::undef::undef::undef::undef::undef::undef::undef::undef::undef::undef::undef::undef::undef::undef::undef::undef::undef::undef::undef::undef::undef::undef::undef::undef::undef::undef::undef::undef::undef::undef::undef::undef::undef::undef::[]), []⟩) (by kernel_rfl) ?_
    refine HD.wl_done ?_
    go_upto_region 9 with fail
    refine HD.wl_begin ?_
    refine HD.wl_takeF (d := some 61) (v := (.agg (kvL q).toArray)) (by kernel_rfl) rfl rfl (y_pairkv (p := q.getD (k0, e0)) rfl (by kernel_rfl) (blk_range H6.out.2.1)) ?_
    refine HD.wl_takeF (d := some 62) (v := (.agg (kvL q).toArray)) (by kernel_rfl) rfl rfl (y_pairkv (p := q.getD (k0, e0)) rfl (by kernel_rfl) (blk_range H6.out.2.2)) ?_
    refine HD.wl_takeF (d := some 63) (v := (.bool true)) (by kernel_rfl) rfl rfl (y_eqKV1 (q := q) rfl (by kernel_rfl) (by kernel_rfl)) ?_
    refine HD.wl_takeF (d := some 64) (v := (.bool true)) (by kernel_rfl) rfl rfl (y_move rfl (by kernel_rfl)) ?_
    refine HD.wl_takeF (d := some 65) (v := (.bool q.isSome)) (by kernel_rfl) rfl rfl (y_move rfl (by kernel_rfl)) ?_
    refine HD.wl_takeF (d := some 66) (v := (.bool q.isSome)) (by kernel_rfl) rfl rfl (y_move rfl (by kernel_rfl)) ?_
    refine HD.wl_takeF (d := some 67) (v := (.bool true)) (by kernel_rfl) rfl rfl (y_eqb1 (b := q.isSome) rfl (by kernel_rfl) (by kernel_rfl)) ?_
    refine HD.wl_takeF (d := some 68) (v := (.bool true)) (by kernel_rfl) rfl rfl (y_pick (b := true) rfl (by kernel_rfl) (by kernel_rfl)) ?_
    refine HD.wl_takeF (d := some 6) (v := (.bool true)) (by kernel_rfl) rfl rfl (y_assign rfl (by kernel_rfl)) ?_
    refine HD.wl_norm (a' := ⟨List.toArray ((p)::(.pointer (some ⟨r, 0, none⟩))::(.agg s.L.toArray)::undef::undef::(.pointer (some ⟨h0, 0, none⟩))::(.bool true)::undef::undef::undef::undef::(.pointer (some ⟨h4, 0, none⟩))::(.bool q.isSome)::(.pointer (some ⟨h6, 0, none⟩))::(.bool q.isSome)::(.pointer (some ⟨h0, 0, none⟩))::(.int .i64 s.kind)::(.bool false)::(.bool false)::undef::undef::undef::undef::undef::undef::undef::undef::undef::undef::undef::undef::undef::undef::undef::undef::undef::undef::undef::undef::undef::undef::(.bool true)::(.bool true)::(.tuple #[.agg (kvL q).toArray, .bool q.isSome])::(p)::(.pointer (some ⟨h0, 3, none⟩))::(.agg s.key.L.toArray)::(.pointer (some ⟨h0, 44, none⟩))::(.bool s.any)::(.tuple #[.agg (kvL q).toArray, .bool q.isSome])::(.agg (kvL q).toArray)::(.bool q.isSome)::(.tuple #[.agg (kvL q).toArray, .bool q.isSome])::(.pointer (some ⟨r, 0, none⟩))::(.pointer (some ⟨h0, 3, none⟩))::(.agg s.key.L.toArray)::(.pointer (some ⟨h0, 44, none⟩))::(.bool s.any)::(.tuple #[.agg (kvL q).toArray, .bool q.isSome])::(.agg (kvL q).toArray)::(.bool q.isSome)::(.agg (kvL q).toArray)::(.agg (kvL q).toArray)::(.bool true)::(.bool true)::(.bool q.isSome)::(.bool q.isSome)::(.bool true)::(.bool true)::undef::undef::undef::undef::undef::undef::undef::undef::undef::undef::undef::undef::undef::undef::undef::undef::undef::undef::undef::undef::undef::undef::undef::undef::undef::undef::undef::undef::undef::undef::undef::undef::undef::undef::undef::undef::undef::undef::[]), []⟩) (by kernel_rfl) ?_
    refine HD.wl_done ?_
    go_wp2_with fail
    go_ret
    exact ⟨rfl, H6.out.1.m⟩
  have d1 : decide (s.kind = 7) = false := decide_eq_false hk
  clear hk
  go_upto_region 6 with fail
  refine HD.wl_begin ?_
  refine HD.wl_takeF (d := some 42) (v := (.bool false)) (by kernel_rfl) rfl rfl (y_eqi (n := 7) d1 rfl (by kernel_rfl) (by kernel_rfl)) ?_
  refine HD.wl_takeF (d := some 41) (v := (.bool false)) (by kernel_rfl) rfl rfl (y_assign rfl (by kernel_rfl)) ?_
  refine HD.wl_norm (a' := ⟨List.toArray ((p)::(.pointer (some ⟨r, 0, none⟩))::(.agg s.L.toArray)::undef::undef::(.pointer (some ⟨h0, 0, none⟩))::(.bool false)::undef::undef::undef::undef::undef::undef::undef::undef::(.pointer (some ⟨h0, 0, none⟩))::(.int .i64 s.kind)::(.bool false)::(.bool false)::undef::undef::undef::undef::undef::undef::undef::undef::undef::undef::undef::undef::undef::undef::undef::undef::undef::undef::undef::undef::undef::undef::(.bool false)::(.bool false)::undef::undef::undef::undef::undef::undef::undef::undef::undef::undef::undef::undef::undef::undef::undef::undef::undef::undef::undef::undef::undef::undef::undef::undef::undef::undef::undef::undef::undef::undef::undef::undef::undef::undef::undef::undef::undef::undef::undef::undef::undef::undef::undef::undef::undef::undef::undef::undef::undef::undef::undef::undef::undef::undef::undef::undef::undef::undef::undef::undef::undef::undef::undef::undef::[]), []⟩) (by kernel_rfl) ?_
  refine HD.wl_done ?_
  clear d1
  by_cases hk : s.kind = 8
  · have d1 : decide (s.kind = 8) = true := decide_eq_true hk
    clear hk
    go_upto_region 10 with fail
    refine HD.wl_begin ?_
    refine HD.wl_takeF (d := some 70) (v := (.bool true)) (by kernel_rfl) rfl rfl (y_eqi (n := 8) d1 rfl (by kernel_rfl) (by kernel_rfl)) ?_
    refine HD.wl_takeF (d := some 69) (v := (.bool true)) (by kernel_rfl) rfl rfl (y_assign rfl (by kernel_rfl)) ?_
    refine HD.wl_norm (a' := ⟨List.toArray ((p)::(.pointer (some ⟨r, 0, none⟩))::(.agg s.L.toArray)::undef::undef::(.pointer (some ⟨h0, 0, none⟩))::(.bool false)::undef::undef::undef::undef::undef::undef::undef::undef::(.pointer (some ⟨h0, 0, none⟩))::(.int .i64 s.kind)::(.bool false)::(.bool false)::undef::undef::undef::undef::undef::undef::undef::undef::undef::undef::undef::undef::undef::undef::undef::undef::undef::undef::undef::undef::undef::undef::(.bool false)::(.bool false)::undef::undef::undef::undef::undef::undef::undef::undef::undef::undef::undef::undef::undef::undef::undef::undef::undef::undef::undef::undef::undef::undef::undef::undef::undef::undef::(.bool true)::(.bool true)::undef::undef::undef::undef::undef::undef::undef::undef::undef::undef::undef::undef::undef::undef::undef::undef::undef::undef::undef::undef::undef::undef::undef::undef::undef::undef::undef::undef::undef::undef::undef::undef::undef::undef::undef::undef::[]), []⟩) (by kernel_rfl) ?_
    refine HD.wl_done ?_
    obtain ⟨A, c, rfl, _⟩ := HA.out.1.rr.2
    go_upto_region 11 with fail
    refine wp_region_held_drew (S := fun w9 => Blk w9 r 79 #[.slice A l.length c]) (by kernel_rfl) HA.out.1.rr.1.drew (fun hHeld => HD.WA.out ?_)
    refine HD.wa_take (i := 0) (d := some 71) (v := (p)) rfl (by kernel_rfl) (by kernel_rfl) (by kernel_rfl) rfl (fun _ _ _ h => h) (Or.inl ⟨by kernel_rfl, fun w9 hw => y_move rfl (by kernel_rfl)⟩) hHeld rfl ?_
    refine HD.wa_take (i := 2) (d := some 73) (v := (.pointer (some ⟨r, 0, none⟩))) rfl (by kernel_rfl) (by kernel_rfl) (by kernel_rfl) rfl (fun _ _ _ h => h) (Or.inl ⟨by kernel_rfl, fun w9 hw => y_move rfl (by kernel_rfl)⟩) hHeld rfl ?_
    refine HD.wa_take (i := 3) (d := some 74) (v := (.pointer (some ⟨r, 0, none⟩))) rfl (by kernel_rfl) (by kernel_rfl) (by kernel_rfl) rfl (fun _ _ _ h => h) (Or.inl ⟨by kernel_rfl, fun w9 hw => y_nil rfl (by kernel_rfl)⟩) hHeld rfl ?_
    refine HD.wa_take (i := 4) (d := some 75) (v := (.pointer (some ⟨r, 0, none⟩))) rfl (by kernel_rfl) (by kernel_rfl) (by kernel_rfl) rfl (fun _ _ _ h => h) (Or.inl ⟨by kernel_rfl, fun w9 hw => y_fri rfl (by kernel_rfl)⟩) hHeld rfl ?_
    refine HD.wa_take (i := 5) (d := some 76) (v := (.slice A l.length c)) rfl (by kernel_rfl) (by kernel_rfl) (by kernel_rfl) rfl (fun _ _ _ h => h) (Or.inl ⟨by kernel_rfl, fun w9 hw => y_ldkv rfl (by kernel_rfl) (hw.cell 0)⟩) hHeld rfl ?_
    refine HD.wa_callG _ (i := 1) (d := some 72) rfl (by kernel_rfl) rfl (by kernel_rfl) (fun _ => rfl) fun K hK => ?_
    refine op_c1 (fun _ _ => rfl) rfl (by kernel_rfl) (HA.out.2.all _ (Mod.refl no w2).drew) ?_
    rintro e w3 ⟨hL, u, rfl, hge, hbL, hrow, hm3⟩
    have HM3 := Lib.hid (And.intro hbL (And.intro hrow (show Mod no w2 w3 from ((Mod.refl no w2).drew).and_then hm3)))
    clear hge hbL hrow
    refine ⟨_, rfl, hK _ _ (hHeld.mod hm3 (fun c => c)) fun hHeld9 => ?_⟩
    clear hK K hHeld
    have hHeld := hHeld9
    clear hHeld9
    clear hm3
    refine HD.wa_take (i := 6) (d := some 77) (v := (.agg #[.func (.func 62) #[] #[.pointer (some ⟨hL, 0, none⟩)], .slice A l.length c])) rfl (by kernel_rfl) (by kernel_rfl) (by kernel_rfl) rfl (fun _ _ _ h => h) (Or.inl ⟨by kernel_rfl, fun w9 hw => y_kept rfl (by kernel_rfl) (by kernel_rfl)⟩) hHeld rfl ?_
    refine HD.wa_callG _ (i := 7) (d := some 78) rfl (by kernel_rfl) rfl (by kernel_rfl) (fun _ => rfl) fun K hK => ?_
    refine op_c1 (fun _ _ => rfl) rfl (by kernel_rfl) (tells_any HM3.out.1 HM3.out.2.1 (HA.out.1.rr.2.mod HM3.out.2.2 (fun _ _ c => c)) (fun b e => Nat.lt_of_lt_of_le (HA.out.1.vl b e) HM3.out.2.2.size) (by have := HA.out.1.hl; omega)) ?_
    rintro e w4 ⟨rfl, hm4⟩
    have H4 := Lib.hid (show Mod no w w4 from (HA.out.1.m.and_then HM3.out.2.2).and_then hm4)
    refine ⟨_, rfl, hK _ _ (hHeld.mod hm4 (fun c => c)) fun hHeld9 => ?_⟩
    clear hK K hHeld
    have hHeld := hHeld9
    clear hHeld9
    clear hm4
    refine HD.wa_take (i := 8) (d := some 6) (v := (.bool true)) rfl (by kernel_rfl) (by kernel_rfl) (by kernel_rfl) rfl (fun _ _ _ h => h) (Or.inl ⟨by kernel_rfl, fun w9 hw => y_assign rfl (by kernel_rfl)⟩) hHeld rfl ?_
    refine HD.wa_norm (a' := ⟨List.toArray ((p)::(.pointer (some ⟨r, 0, none⟩))::(.agg s.L.toArray)::undef::undef::(.pointer (some ⟨h0, 0, none⟩))::(.bool true)::undef::undef::undef::undef::undef::undef::undef::undef::(.pointer (some ⟨h0, 0, none⟩))::(.int .i64 s.kind)::(.bool false)::(.bool false)::undef::undef::undef::undef::undef::undef::undef::undef::undef::undef::undef::undef::undef::undef::undef::undef::undef::undef::undef::undef::undef::undef::(.bool false)::(.bool false)::undef::undef::undef::undef::undef::undef::undef::undef::undef::undef::undef::undef::undef::undef::undef::undef::undef::undef::undef::undef::undef::undef::undef::undef::undef::undef::(.bool true)::(.bool true)::(p)::(.func (.func 62) #[] #[.pointer (some ⟨hL, 0, none⟩)])::(.pointer (some ⟨r, 0, none⟩))::(.pointer (some ⟨r, 0, none⟩))::(.pointer (some ⟨r, 0, none⟩))::(.slice A l.length c)::(.agg #[.func (.func 62) #[] #[.pointer (some ⟨hL, 0, none⟩)], .slice A l.length c])::(.bool true)::undef::undef::undef::undef::undef::undef::undef::undef::undef::undef::undef::undef::undef::undef::undef::undef::undef::undef::undef::undef::undef::undef::undef::undef::undef::undef::undef::undef::[]), []⟩) (by kernel_rfl) ?_
    refine HD.wa_done (by kernel_rfl) ?_
    go_wp2_with fail
    go_ret
    exact ⟨rfl, H4.out⟩
  have d1 : decide (s.kind = 8) = false := decide_eq_false hk
  clear hk
  go_upto_region 10 with fail
  refine HD.wl_begin ?_
  refine HD.wl_takeF (d := some 70) (v := (.bool false)) (by kernel_rfl) rfl rfl (y_eqi (n := 8) d1 rfl (by kernel_rfl) (by kernel_rfl)) ?_
  refine HD.wl_takeF (d := some 69) (v := (.bool false)) (by kernel_rfl) rfl rfl (y_assign rfl (by kernel_rfl)) ?_
  refine HD.wl_norm (a' := ⟨List.toArray ((p)::(.pointer (some ⟨r, 0, none⟩))::(.agg s.L.toArray)::undef::undef::(.pointer (some ⟨h0, 0, none⟩))::(.bool false)::undef::undef::undef::undef::undef::undef::undef::undef::(.pointer (some ⟨h0, 0, none⟩))::(.int .i64 s.kind)::(.bool false)::(.bool false)::undef::undef::undef::undef::undef::undef::undef::undef::undef::undef::undef::undef::undef::undef::undef::undef::undef::undef::undef::undef::undef::undef::(.bool false)::(.bool false)::undef::undef::undef::undef::undef::undef::undef::undef::undef::undef::undef::undef::undef::undef::undef::undef::undef::undef::undef::undef::undef::undef::undef::undef::undef::undef::(.bool false)::(.bool false)::undef::undef::undef::undef::undef::undef::undef::undef::undef::undef::undef::undef::undef::undef::undef::undef::undef::undef::undef::undef::undef::undef::undef::undef::undef::undef::undef::undef::undef::undef::undef::undef::undef::undef::undef::undef::[]), []⟩) (by kernel_rfl) ?_
  refine HD.wl_done ?_
  clear d1
  by_cases hk : s.kind = 9
  · have d1 : decide (s.kind = 9) = true := decide_eq_true hk
    clear hk
    go_upto_region 12 with fail
    refine HD.wl_begin ?_
    refine HD.wl_takeF (d := some 80) (v := (.bool true)) (by kernel_rfl) rfl rfl (y_eqi (n := 9) d1 rfl (by kernel_rfl) (by kernel_rfl)) ?_
    refine HD.wl_takeF (d := some 79) (v := (.bool true)) (by kernel_rfl) rfl rfl (y_assign rfl (by kernel_rfl)) ?_
    refine HD.wl_norm (a' := ⟨List.toArray ((p)::(.pointer (some ⟨r, 0, none⟩))::(.agg s.L.toArray)::undef::undef::(.pointer (some ⟨h0, 0, none⟩))::(.bool false)::undef::undef::undef::undef::undef::undef::undef::undef::(.pointer (some ⟨h0, 0, none⟩))::(.int .i64 s.kind)::(.bool false)::(.bool false)::undef::undef::undef::undef::undef::undef::undef::undef::undef::undef::undef::undef::undef::undef::undef::undef::undef::undef::undef::undef::undef::undef::(.bool false)::(.bool false)::undef::undef::undef::undef::undef::undef::undef::undef::undef::undef::undef::undef::undef::undef::undef::undef::undef::undef::undef::undef::undef::undef::undef::undef::undef::undef::(.bool false)::(.bool false)::undef::undef::undef::undef::undef::undef::undef::undef::(.bool true)::(.bool true)::undef::undef::undef::undef::undef::undef::undef::undef::undef::undef::undef::undef::undef::undef::undef::undef::undef::undef::undef::undef::undef::undef::undef::undef::undef::undef::[]), []⟩) (by kernel_rfl) ?_
    refine HD.wl_done ?_
    obtain ⟨A, c, rfl, _⟩ := HA.out.1.rr.2
    go_upto_region 13 with fail
    refine wp_region_held_drew (S := fun w9 => Blk w9 r 79 #[.slice A l.length c]) (by kernel_rfl) HA.out.1.rr.1.drew (fun hHeld => HD.WA.out ?_)
    refine HD.wa_take (i := 0) (d := some 81) (v := (p)) rfl (by kernel_rfl) (by kernel_rfl) (by kernel_rfl) rfl (fun _ _ _ h => h) (Or.inl ⟨by kernel_rfl, fun w9 hw => y_move rfl (by kernel_rfl)⟩) hHeld rfl ?_
    refine HD.wa_take (i := 2) (d := some 83) (v := (.pointer (some ⟨r, 0, none⟩))) rfl (by kernel_rfl) (by kernel_rfl) (by kernel_rfl) rfl (fun _ _ _ h => h) (Or.inl ⟨by kernel_rfl, fun w9 hw => y_move rfl (by kernel_rfl)⟩) hHeld rfl ?_
    refine HD.wa_take (i := 3) (d := some 84) (v := (.pointer (some ⟨r, 0, none⟩))) rfl (by kernel_rfl) (by kernel_rfl) (by kernel_rfl) rfl (fun _ _ _ h => h) (Or.inl ⟨by kernel_rfl, fun w9 hw => y_nil rfl (by kernel_rfl)⟩) hHeld rfl ?_
    refine HD.wa_take (i := 4) (d := some 85) (v := (.pointer (some ⟨r, 0, none⟩))) rfl (by kernel_rfl) (by kernel_rfl) (by kernel_rfl) rfl (fun _ _ _ h => h) (Or.inl ⟨by kernel_rfl, fun w9 hw => y_fri rfl (by kernel_rfl)⟩) hHeld rfl ?_
    refine HD.wa_take (i := 5) (d := some 86) (v := (.slice A l.length c)) rfl (by kernel_rfl) (by kernel_rfl) (by kernel_rfl) rfl (fun _ _ _ h => h) (Or.inl ⟨by kernel_rfl, fun w9 hw => y_ldkv rfl (by kernel_rfl) (hw.cell 0)⟩) hHeld rfl ?_
    refine HD.wa_take (i := 6) (d := some 87) (v := (.int .i64 (l.length : Int))) rfl (by kernel_rfl) (by kernel_rfl) (by kernel_rfl) rfl (fun _ _ _ h => h) (Or.inl ⟨by kernel_rfl, fun w9 hw => y_lenkv (A := A) (c := c) rfl (by kernel_rfl)⟩) hHeld rfl ?_
    refine HD.wa_callG _ (i := 1) (d := some 82) rfl (by kernel_rfl) rfl (by kernel_rfl) (fun _ => rfl) fun K hK => ?_
    refine op_c1 (fun _ _ => rfl) rfl (by kernel_rfl) (HA.out.2.len _ (Mod.refl no w2).drew) ?_
    rintro e w4 ⟨rfl, hm4⟩
    have H4 := Lib.hid (show Mod no w w4 from (HA.out.1.m.drew).and_then hm4)
    refine ⟨_, rfl, hK _ _ (hHeld.mod hm4 (fun c => c)) fun hHeld9 => ?_⟩
    clear hK K hHeld
    have hHeld := hHeld9
    clear hHeld9
    clear hm4
    refine HD.wa_take (i := 7) (d := some 88) (v := (.bool true)) rfl (by kernel_rfl) (by kernel_rfl) (by kernel_rfl) rfl (fun _ _ _ h => h) (Or.inl ⟨by kernel_rfl, fun w9 hw => y_eqi (m := (l.length : Int)) (n := (l.length : Int)) (d := true) (decide_eq_true rfl) rfl (by kernel_rfl) (by kernel_rfl)⟩) hHeld rfl ?_
    refine HD.wa_take (i := 8) (d := some 6) (v := (.bool true)) rfl (by kernel_rfl) (by kernel_rfl) (by kernel_rfl) rfl (fun _ _ _ h => h) (Or.inl ⟨by kernel_rfl, fun w9 hw => y_assign rfl (by kernel_rfl)⟩) hHeld rfl ?_
    refine HD.wa_norm (a' := ⟨List.toArray ((p)::(.pointer (some ⟨r, 0, none⟩))::(.agg s.L.toArray)::undef::undef::(.pointer (some ⟨h0, 0, none⟩))::(.bool true)::undef::undef::undef::undef::undef::undef::undef::undef::(.pointer (some ⟨h0, 0, none⟩))::(.int .i64 s.kind)::(.bool false)::(.bool false)::undef::undef::undef::undef::undef::undef::undef::undef::undef::undef::undef::undef::undef::undef::undef::undef::undef::undef::undef::undef::undef::undef::(.bool false)::(.bool false)::undef::undef::undef::undef::undef::undef::undef::undef::undef::undef::undef::undef::undef::undef::undef::undef::undef::undef::undef::undef::undef::undef::undef::undef::undef::undef::(.bool false)::(.bool false)::undef::undef::undef::undef::undef::undef::undef::undef::(.bool true)::(.bool true)::(p)::(.int .i64 (l.length : Int))::(.pointer (some ⟨r, 0, none⟩))::(.pointer (some ⟨r, 0, none⟩))::(.pointer (some ⟨r, 0, none⟩))::(.slice A l.length c)::(.int .i64 (l.length : Int))::(.bool true)::undef::undef::undef::undef::undef::undef::undef::undef::undef::undef::undef::undef::undef::undef::undef::undef::undef::undef::[]), []⟩) (by kernel_rfl) ?_
    refine HD.wa_done (by kernel_rfl) ?_
    go_wp2_with fail
    go_ret
    exact ⟨rfl, H4.out⟩
  have d1 : decide (s.kind = 9) = false := decide_eq_false hk
  clear hk
  go_upto_region 12 with fail
  refine HD.wl_begin ?_
  refine HD.wl_takeF (d := some 80) (v := (.bool false)) (by kernel_rfl) rfl rfl (y_eqi (n := 9) d1 rfl (by kernel_rfl) (by kernel_rfl)) ?_
  refine HD.wl_takeF (d := some 79) (v := (.bool false)) (by kernel_rfl) rfl rfl (y_assign rfl (by kernel_rfl)) ?_
  refine HD.wl_norm (a' := ⟨List.toArray ((p)::(.pointer (some ⟨r, 0, none⟩))::(.agg s.L.toArray)::undef::undef::(.pointer (some ⟨h0, 0, none⟩))::(.bool false)::undef::undef::undef::undef::undef::undef::undef::undef::(.pointer (some ⟨h0, 0, none⟩))::(.int .i64 s.kind)::(.bool false)::(.bool false)::undef::undef::undef::undef::undef::undef::undef::undef::undef::undef::undef::undef::undef::undef::undef::undef::undef::undef::undef::undef::undef::undef::(.bool false)::(.bool false)::undef::undef::undef::undef::undef::undef::undef::undef::undef::undef::undef::undef::undef::undef::undef::undef::undef::undef::undef::undef::undef::undef::undef::undef::undef::undef::(.bool false)::(.bool false)::undef::undef::undef::undef::undef::undef::undef::undef::(.bool false)::(.bool false)::undef::undef::undef::undef::undef::undef::undef::undef::undef::undef::undef::undef::undef::undef::undef::undef::undef::undef::undef::undef::undef::undef::undef::undef::undef::undef::[]), []⟩) (by kernel_rfl) ?_
  refine HD.wl_done ?_
  clear d1
  by_cases hk : s.kind = 10
  · have d1 : decide (s.kind = 10) = true := decide_eq_true hk
    clear hk
    go_upto_region 14 with fail
    refine HD.wl_begin ?_
    refine HD.wl_takeF (d := some 90) (v := (.bool true)) (by kernel_rfl) rfl rfl (y_eqi (n := 10) d1 rfl (by kernel_rfl) (by kernel_rfl)) ?_
    refine HD.wl_takeF (d := some 89) (v := (.bool true)) (by kernel_rfl) rfl rfl (y_assign rfl (by kernel_rfl)) ?_
    refine HD.wl_norm (a' := ⟨List.toArray ((p)::(.pointer (some ⟨r, 0, none⟩))::(.agg s.L.toArray)::undef::undef::(.pointer (some ⟨h0, 0, none⟩))::(.bool false)::undef::undef::undef::undef::undef::undef::undef::undef::(.pointer (some ⟨h0, 0, none⟩))::(.int .i64 s.kind)::(.bool false)::(.bool false)::undef::undef::undef::undef::undef::undef::undef::undef::undef::undef::undef::undef::undef::undef::undef::undef::undef::undef::undef::undef::undef::undef::(.bool false)::(.bool false)::undef::undef::undef::undef::undef::undef::undef::undef::undef::undef::undef::undef::undef::undef::undef::undef::undef::undef::undef::undef::undef::undef::undef::undef::undef::undef::(.bool false)::(.bool false)::undef::undef::undef::undef::undef::undef::undef::undef::(.bool false)::(.bool false)::undef::undef::undef::undef::undef::undef::undef::undef::(.bool true)::(.bool true)::undef::undef::undef::undef::undef::undef::undef::undef::undef::undef::undef::undef::undef::undef::undef::undef::[]), []⟩) (by kernel_rfl) ?_
    refine HD.wl_done ?_
    go_upto_region 15 with fail
    refine HD.wl_begin ?_
    refine HD.wl_takeF (d := some 91) (v := (p)) (by kernel_rfl) rfl rfl (y_move rfl (by kernel_rfl)) ?_
    refine HD.wl_callF (d := some 92) (v := (.agg (szL (cntS l) 16).toArray)) (by kernel_rfl) rfl rfl fun K hK => ?_
    refine op_c1 (fun _ _ => rfl) rfl (by kernel_rfl) (HA.out.2.sizes _ (Mod.refl no w2)) ?_
    rintro e w3 ⟨rfl, hm3⟩
    have H3 := Lib.hid (HA.out.1.mod hm3)
    clear hm3
    refine ⟨_, rfl, hK _ ?_⟩
    clear hK K
    refine HD.wl_takeF (d := some 93) (v := (.pointer (some ⟨r, 0, none⟩))) (by kernel_rfl) rfl rfl (y_move rfl (by kernel_rfl)) ?_
    refine HD.wl_callF (d := some 94) (v := (.agg (szL (cntS l) 16).toArray)) (by kernel_rfl) rfl rfl fun K hK => ?_
    refine op_c1 (fun _ _ => rfl) rfl (by kernel_rfl) (rsizes_any H3.out.rr (by have := H3.out.hl; omega)) ?_
    rintro e w4 ⟨rfl, hm4⟩
    have H4 := Lib.hid (H3.out.m.and_then hm4)
    clear hm4
    refine ⟨_, rfl, hK _ ?_⟩
    clear hK K
    refine HD.wl_takeF (d := some 95) (v := (.bool true)) (by kernel_rfl) rfl rfl (y_eqS1 (f := cntS l) rfl (by kernel_rfl) (by kernel_rfl)) ?_
    refine HD.wl_takeF (d := some 6) (v := (.bool true)) (by kernel_rfl) rfl rfl (y_assign rfl (by kernel_rfl)) ?_
    refine HD.wl_norm (a' := ⟨List.toArray ((p)::(.pointer (some ⟨r, 0, none⟩))::(.agg s.L.toArray)::undef::undef::(.pointer (some ⟨h0, 0, none⟩))::(.bool true)::undef::undef::undef::undef::undef::undef::undef::undef::(.pointer (some ⟨h0, 0, none⟩))::(.int .i64 s.kind)::(.bool false)::(.bool false)::undef::undef::undef::undef::undef::undef::undef::undef::undef::undef::undef::undef::undef::undef::undef::undef::undef::undef::undef::undef::undef::undef::(.bool false)::(.bool false)::undef::undef::undef::undef::undef::undef::undef::undef::undef::undef::undef::undef::undef::undef::undef::undef::undef::undef::undef::undef::undef::undef::undef::undef::undef::undef::(.bool false)::(.bool false)::undef::undef::undef::undef::undef::undef::undef::undef::(.bool false)::(.bool false)::undef::undef::undef::undef::undef::undef::undef::undef::(.bool true)::(.bool true)::(p)::(.agg (szL (cntS l) 16).toArray)::(.pointer (some ⟨r, 0, none⟩))::(.agg (szL (cntS l) 16).toArray)::(.bool true)::undef::undef::undef::undef::undef::undef::undef::undef::undef::undef::undef::[]), []⟩) (by kernel_rfl) ?_
    refine HD.wl_done ?_
    go_wp2_with fail
    go_ret
    exact ⟨rfl, H4.out⟩
  have d1 : decide (s.kind = 10) = false := decide_eq_false hk
  clear hk
  go_upto_region 14 with fail
  refine HD.wl_begin ?_
  refine HD.wl_takeF (d := some 90) (v := (.bool false)) (by kernel_rfl) rfl rfl (y_eqi (n := 10) d1 rfl (by kernel_rfl) (by kernel_rfl)) ?_
  refine HD.wl_takeF (d := some 89) (v := (.bool false)) (by kernel_rfl) rfl rfl (y_assign rfl (by kernel_rfl)) ?_
  refine HD.wl_norm (a' := ⟨List.toArray ((p)::(.pointer (some ⟨r, 0, none⟩))::(.agg s.L.toArray)::undef::undef::(.pointer (some ⟨h0, 0, none⟩))::(.bool false)::undef::undef::undef::undef::undef::undef::undef::undef::(.pointer (some ⟨h0, 0, none⟩))::(.int .i64 s.kind)::(.bool false)::(.bool false)::undef::undef::undef::undef::undef::undef::undef::undef::undef::undef::undef::undef::undef::undef::undef::undef::undef::undef::undef::undef::undef::undef::(.bool false)::(.bool false)::undef::undef::undef::undef::undef::undef::undef::undef::undef::undef::undef::undef::undef::undef::undef::undef::undef::undef::undef::undef::undef::undef::undef::undef::undef::undef::(.bool false)::(.bool false)::undef::undef::undef::undef::undef::undef::undef::undef::(.bool false)::(.bool false)::undef::undef::undef::undef::undef::undef::undef::undef::(.bool false)::(.bool false)::undef::undef::undef::undef::undef::undef::undef::undef::undef::undef::undef::undef::undef::undef::undef::undef::[]), []⟩) (by kernel_rfl) ?_
  refine HD.wl_done ?_
  clear d1
  by_cases hk : s.kind = 12
  · have d1 : decide (s.kind = 12) = true := decide_eq_true hk
    clear hk
    go_upto_region 16 with fail
    refine HD.wl_begin ?_
    refine HD.wl_takeF (d := some 97) (v := (.bool true)) (by kernel_rfl) rfl rfl (y_eqi (n := 12) d1 rfl (by kernel_rfl) (by kernel_rfl)) ?_
    refine HD.wl_takeF (d := some 96) (v := (.bool true)) (by kernel_rfl) rfl rfl (y_assign rfl (by kernel_rfl)) ?_
    refine HD.wl_norm (a' := ⟨List.toArray ((p)::(.pointer (some ⟨r, 0, none⟩))::(.agg s.L.toArray)::undef::undef::(.pointer (some ⟨h0, 0, none⟩))::(.bool false)::undef::undef::undef::undef::undef::undef::undef::undef::(.pointer (some ⟨h0, 0, none⟩))::(.int .i64 s.kind)::(.bool false)::(.bool false)::undef::undef::undef::undef::undef::undef::undef::undef::undef::undef::undef::undef::undef::undef::undef::undef::undef::undef::undef::undef::undef::undef::(.bool false)::(.bool false)::undef::undef::undef::undef::undef::undef::undef::undef::undef::undef::undef::undef::undef::undef::undef::undef::undef::undef::undef::undef::undef::undef::undef::undef::undef::undef::(.bool false)::(.bool false)::undef::undef::undef::undef::undef::undef::undef::undef::(.bool false)::(.bool false)::undef::undef::undef::undef::undef::undef::undef::undef::(.bool false)::(.bool false)::undef::undef::undef::undef::undef::(.bool true)::(.bool true)::undef::undef::undef::undef::undef::undef::undef::undef::undef::[]), []⟩) (by kernel_rfl) ?_
    refine HD.wl_done ?_
    obtain ⟨n, hn, hsh, hcb⟩ := shard_byte HA.out.1.st.key
    have HB := Lib.hid (And.intro hn (And.intro hsh hcb))
    clear hn hsh hcb
    go_upto_region 17 with fail
    refine wp_region_held_drew (S := fun w9 => w9.rangeAt h0 3 s.key.L ∧ w9.cell? ⟨h0, 3, none⟩ = some (.int .u8 (n : Int))) (by kernel_rfl) ⟨HA.out.1.st.key, HB.out.2.2⟩ (fun hHeld => HD.WA.out ?_)
    refine HD.wa_take (i := 0) (d := some 98) (v := (.pointer (some ⟨h0, 3, none⟩))) rfl (by kernel_rfl) (by kernel_rfl) (by kernel_rfl) rfl (fun _ _ _ h => h) (Or.inl ⟨by kernel_rfl, fun w9 hw => y_fst (k := 3) (by decide) rfl (by kernel_rfl)⟩) hHeld rfl ?_
    refine HD.wa_take (i := 1) (d := some 99) (v := (.agg s.key.L.toArray)) rfl (by kernel_rfl) (by kernel_rfl) (by kernel_rfl) rfl (fun _ _ _ h => h) (Or.inl ⟨by kernel_rfl, fun w9 hw => y_key rfl (by kernel_rfl) hw.1⟩) hHeld rfl ?_
    refine HD.wa_take (i := 3) (d := some 101) (v := (.pointer (some ⟨h0, 3, none⟩))) rfl (by kernel_rfl) (by kernel_rfl) (by kernel_rfl) rfl (fun _ _ _ h => h) (Or.inl ⟨by kernel_rfl, fun w9 hw => y_fst (k := 3) (by decide) rfl (by kernel_rfl)⟩) hHeld rfl ?_
    refine HD.wa_take (i := 4) (d := some 102) (v := (.pointer (some ⟨h0, 3, none⟩))) rfl (by kernel_rfl) (by kernel_rfl) (by kernel_rfl) rfl (fun _ _ _ h => h) (Or.inl ⟨by kernel_rfl, fun w9 hw => y_ixk0 rfl (by kernel_rfl)⟩) hHeld rfl ?_
    refine HD.wa_take (i := 5) (d := some 103) (v := (.int .u8 (n : Int))) rfl (by kernel_rfl) (by kernel_rfl) (by kernel_rfl) rfl (fun _ _ _ h => h) (Or.inl ⟨by kernel_rfl, fun w9 hw => y_one rfl (by decide) (by kernel_rfl) hw.2 (by kernel_rfl)⟩) hHeld rfl ?_
    refine HD.wa_take (i := 6) (d := some 104) (v := (.int .i64 (n : Int))) rfl (by kernel_rfl) (by kernel_rfl) (by kernel_rfl) rfl (fun _ _ _ h => h) (Or.inl ⟨by kernel_rfl, fun w9 hw => y_cvt HB.out.1 rfl (by kernel_rfl)⟩) hHeld rfl ?_
    refine HD.wa_take (i := 7) (d := some 105) (v := (.int .i64 ((n % 16 : Nat) : Int))) rfl (by kernel_rfl) (by kernel_rfl) (by kernel_rfl) rfl (fun _ _ _ h => h) (Or.inl ⟨by kernel_rfl, fun w9 hw => y_remi HB.out.1 rfl (by kernel_rfl)⟩) hHeld rfl ?_
    refine HD.wa_callG _ (i := 2) (d := some 100) rfl (by kernel_rfl) rfl (by kernel_rfl) (fun _ => rfl) fun K hK => ?_
    refine op_c1 (fun _ _ => rfl) rfl (by kernel_rfl) (shard_any s.key _) ?_
    rintro e w4 ⟨rfl, hm4⟩
    have H4 := Lib.hid (show Mod no w w4 from (HA.out.1.m.drew).and_then hm4)
    refine ⟨_, rfl, hK _ _ ⟨range_mod hHeld.1 hm4 (fun c => c), by rw [hm4.cell (p := ⟨h0, 3, none⟩) HA.out.1.st.lt (fun c => c)]; exact hHeld.2⟩ fun hHeld9 => ?_⟩
    clear hK K hHeld
    have hHeld := hHeld9
    clear hHeld9
    clear hm4
    refine HD.wa_take (i := 8) (d := some 106) (v := (.bool true)) rfl (by kernel_rfl) (by kernel_rfl) (by kernel_rfl) rfl (fun _ _ _ h => h) (Or.inl ⟨by kernel_rfl, fun w9 hw => y_eqi (m := (shard s.key : Int)) (n := ((n % 16 : Nat) : Int)) (d := true) (decide_eq_true (by rw [HB.out.2.1])) rfl (by kernel_rfl) (by kernel_rfl)⟩) hHeld rfl ?_
    refine HD.wa_take (i := 9) (d := some 6) (v := (.bool true)) rfl (by kernel_rfl) (by kernel_rfl) (by kernel_rfl) rfl (fun _ _ _ h => h) (Or.inl ⟨by kernel_rfl, fun w9 hw => y_assign rfl (by kernel_rfl)⟩) hHeld rfl ?_
    refine HD.wa_norm (a' := ⟨List.toArray ((p)::(.pointer (some ⟨r, 0, none⟩))::(.agg s.L.toArray)::undef::undef::(.pointer (some ⟨h0, 0, none⟩))::(.bool true)::undef::undef::undef::undef::undef::undef::undef::undef::(.pointer (some ⟨h0, 0, none⟩))::(.int .i64 s.kind)::(.bool false)::(.bool false)::undef::undef::undef::undef::undef::undef::undef::undef::undef::undef::undef::undef::undef::undef::undef::undef::undef::undef::undef::undef::undef::undef::(.bool false)::(.bool false)::undef::undef::undef::undef::undef::undef::undef::undef::undef::undef::undef::undef::undef::undef::undef::undef::undef::undef::undef::undef::undef::undef::undef::undef::undef::undef::(.bool false)::(.bool false)::undef::undef::undef::undef::undef::undef::undef::undef::(.bool false)::(.bool false)::undef::undef::undef::undef::undef::undef::undef::undef::(.bool false)::(.bool false)::undef::undef::undef::undef::undef::(.bool true)::(.bool true)::(.pointer (some ⟨h0, 3, none⟩))::(.agg s.key.L.toArray)::(.int .i64 (shard s.key : Int))::(.pointer (some ⟨h0, 3, none⟩))::(.pointer (some ⟨h0, 3, none⟩))::(.int .u8 (n : Int))::(.int .i64 (n : Int))::(.int .i64 ((n % 16 : Nat) : Int))::(.bool true)::[]), []⟩) (by kernel_rfl) ?_
    refine HD.wa_done (by kernel_rfl) ?_
    go_wp2_with fail
    go_ret
    exact ⟨rfl, H4.out⟩
  have d1 : decide (s.kind = 12) = false := decide_eq_false hk
  clear hk
  go_upto_region 16 with fail
  refine HD.wl_begin ?_
  refine HD.wl_takeF (d := some 97) (v := (.bool false)) (by kernel_rfl) rfl rfl (y_eqi (n := 12) d1 rfl (by kernel_rfl) (by kernel_rfl)) ?_
  refine HD.wl_takeF (d := some 96) (v := (.bool false)) (by kernel_rfl) rfl rfl (y_assign rfl (by kernel_rfl)) ?_
  refine HD.wl_norm (a' := ⟨List.toArray ((p)::(.pointer (some ⟨r, 0, none⟩))::(.agg s.L.toArray)::undef::undef::(.pointer (some ⟨h0, 0, none⟩))::(.bool false)::undef::undef::undef::undef::undef::undef::undef::undef::(.pointer (some ⟨h0, 0, none⟩))::(.int .i64 s.kind)::(.bool false)::(.bool false)::undef::undef::undef::undef::undef::undef::undef::undef::undef::undef::undef::undef::undef::undef::undef::undef::undef::undef::undef::undef::undef::undef::(.bool false)::(.bool false)::undef::undef::undef::undef::undef::undef::undef::undef::undef::undef::undef::undef::undef::undef::undef::undef::undef::undef::undef::undef::undef::undef::undef::undef::undef::undef::(.bool false)::(.bool false)::undef::undef::undef::undef::undef::undef::undef::undef::(.bool false)::(.bool false)::undef::undef::undef::undef::undef::undef::undef::undef::(.bool false)::(.bool false)::undef::undef::undef::undef::undef::(.bool false)::(.bool false)::undef::undef::undef::undef::undef::undef::undef::undef::undef::[]), []⟩) (by kernel_rfl) ?_
  refine HD.wl_done ?_
  clear d1
  go_wp2_with fail
  go_ret
  exact ⟨rfl, HA.out.1.m⟩
end Go.Proofs.Ytknbehjhaaidoaa.IX

