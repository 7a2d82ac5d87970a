/- IndexExact: the texts ExJ of this seat, one behind the other. -/
import Derived.Test.YtknbehjhaaidoaaM30
/- IndexExact: the first loop. -/
namespace Go.Proofs.Ytknbehjhaaidoaa.IX
open Go.RowKit Go.Shelf Mem HD TB
set_option linter.unusedVariables false
set_option linter.unusedSimpArgs false
theorem fresh_st (w : World) (s : Stp) : Mod no w ((w.alloc (.cells stp0.L.toArray 73)).setCells w.heap.size 0 s.L) ∧ Blk ((w.alloc (.cells stp0.L.toArray 73)).setCells w.heap.size 0 s.L) w.heap.size 73 s.L.toArray := by
  refine ⟨mod_setCells (fun c => absurd c (Nat.lt_irrefl _)) _ _ _ ((Mod.refl no w).alloc _), ?_⟩
  have h1 := blk_sets w.heap.size s.L 0 stp0.L _ (Blk.new w 73 stp0.L.toArray) (by rw [s.len, stp0.len]; decide)
  rw [show stp0.L.take 0 ++ s.L ++ stp0.L.drop (0 + s.L.length) = s.L from by rw [List.drop_of_length_le (by rw [s.len, stp0.len]; decide)]; simp] at h1
  exact h1
theorem wl_stF {a a' : Act} {o : Oper} {w : World} {ops : Array Oper} {rest : List Oper} {Q : Exit → Act → World → Prop} {x y : Operand} (ho : o.op = .store 73 x y) (b : Nat) (s : Stp) (hw : Region.wanted o (yielded ops a.tmps) = true) (hd : o.dst = none) (ha : a.put none undef = a') (hx : a.eval x = .pointer (some ⟨b, 0, none⟩)) (hy : a.eval y = .agg s.L.toArray)
    (hb : Blk w b 73 stp0.L.toArray) (h : WL ops Q rest a' (w.setCells b 0 s.L)) : WL ops Q (o :: rest) a w :=
  wl_storeF ho b 0 s.L.toArray hw hd ha hx hy (blk_there hb 0 _ (by rw [List.size_toArray, List.size_toArray, s.len, stp0.len]; decide)) (by rw [List.size_toArray]; exact step_sizeG s) (all_oneCell_toArray (stp_ones s)) h
theorem rat_new {w : World} {r : Nat} (hb : Blk w r 79 #[.slice none 0 0]) : RAt w r (.slice none 0 0) [] := ⟨hb, none, 0, rfl, fun i x h => by cases h⟩
/-- A new index and a new one of the document's. -/
theorem side_new {w : World} {g r : Nat} {R : Nat → Prop} {P : Nat → Nat} {Rs : Nat → Nat → Prop} (h : IxAt w g R (fun _ => t8) P Rs) (hb : Blk w r 79 #[.slice none 0 0]) (hr : ¬ R r) (hR : ∀ x, R x → x < w.heap.size) : Side w (fun x => R x ∨ x = r) g r (.slice none 0 0) [] :=
  ⟨⟨R, _, P, Rs, h, by rw [il8], fun x c => .inl c, hr⟩, rat_new hb, List.Pairwise.nil, .inr rfl, fun x c => c.elim (hR x) fun e => by rw [e]; exact hb.lt, fun b hb => (nomatch hb), fun b hb => (nomatch hb)⟩
set_option maxRecDepth 100000 in
set_option maxHeartbeats 20000000 in
theorem loop1_any {w W : World} {hp hr B : Nat} {O : Nat → Nat → Prop} {g r : Nat → Nat} {v : Nat → Value} {l : Nat → List (Key × Ent)} {Z : Nat → Prop} {sv : Value} {ss : List Stp} {u1 u2 u6 u7 u8 u9 u10 u11 u12 u13 u14 u15 u16 u17 u18 u19 u20 u21 u22 u23 u24 u25 u26 u27 u28 u29 u30 u31 u32 u33 u34 u35 u36 u37 u38 u39 u40 u41 u42 u43 u44 u45 u46 u47 u48 u49 u50 u51 u52 u53 u54 u55 u56 u57 u58 u59 u60 u61 u62 u63 u64 u65 u66 u67 u68 u69 u70 u71 u72 u73 u74 u75 u76 u77 u78 u79 u80 u81 u82 u83 u84 u85 u86 u87 u88 u89 u90 u91 u92 u93 u94 u95 u96 u97 u98 u99 u100 u101 u102 u103 u104 u105 u106 u107 u108 u109 u110 u111 u112 u113 u114 u115 u116 u117 u118 u119 u120 u121 u122 u123 u124 u125 u126 u127 u128 u129 u130 u131 u132 : Value}
    (hE : EX w hp hr B O g r v l Z (.slice none 0 0) [] 0 0 W) (hS : SAt w sv ss) (hl : ss.length ≤ 1048576) :
    Code.wp Try.prog ex6 (bodyPost Try.prog Try.f6 fun e w' => e = .returned (.bool true) ∧ Mod no w w') ⟨List.toArray ((sv)::u1::u2::(.pointer (some ⟨hp, 0, none⟩))::(.pointer (some ⟨hr, 0, none⟩))::(.slice none 0 0)::u6::u7::u8::u9::u10::u11::u12::u13::u14::u15::u16::u17::u18::u19::u20::u21::u22::u23::u24::u25::u26::u27::u28::u29::u30::u31::u32::u33::u34::u35::u36::u37::u38::u39::u40::u41::u42::u43::u44::u45::u46::u47::u48::u49::u50::u51::u52::u53::u54::u55::u56::u57::u58::u59::u60::u61::u62::u63::u64::u65::u66::u67::u68::u69::u70::u71::u72::u73::u74::u75::u76::u77::u78::u79::u80::u81::u82::u83::u84::u85::u86::u87::u88::u89::u90::u91::u92::u93::u94::u95::u96::u97::u98::u99::u100::u101::u102::u103::u104::u105::u106::u107::u108::u109::u110::u111::u112::u113::u114::u115::u116::u117::u118::u119::u120::u121::u122::u123::u124::u125::u126::u127::u128::u129::u130::u131::u132::[]), []⟩ W := by
  obtain ⟨A, c, rfl, hsr⟩ := hS
  have HA := Lib.hid (And.intro hsr hl)
  have HE := Lib.hid hE
  clear hE hsr hl
  show Code.wp Try.prog (Code.seq (sL ex6) ex21) _ _ _
  refine wp_seq_k fun K hK => ?_
  have HK := Lib.hid hK
  clear hK
  conv => arg 2; whnf
  go_wp2_with fail
  go_loopw [5, 6] (fun v5 v6 w' => ∃ (O : Nat → Nat → Prop) (g r : Nat → Nat) (v : Nat → Value) (l : Nat → List (Key × Ent)) (Z : Nat → Prop) (ks : List Kp) (n : Nat), n ≤ ss.length ∧ v6 = .int .i64 (n : Int) ∧ EX w hp hr B O g r v l Z v5 ks n n w') (fun _ v6 _ => ss.length - (intOf v6).toNat)
  case atStart => exact ⟨O, g, r, v, l, Z, [], 0, Nat.zero_le _, rfl, HE.out⟩
  case round =>
    clear HE
    obtain ⟨O, g, r, v, l, Z, ks, n, hn, rfl, hE⟩ := hrel
    have HE := Lib.hid hE
    clear hE
    by_cases hlt : n < ss.length
    · obtain ⟨s, hs⟩ : ∃ s, ss[n]? = some s := ⟨_, List.getElem?_eq_getElem hlt⟩
      obtain ⟨b, o, rfl, hsr⟩ := HA.out.1 n s hs
      have d1 : decide ((n : Int) < (ss.length : Int)) = true := decide_eq_true (by omega)
      have HM := Lib.hid (show ss.length - ((n : Int) + 1).toNat < ss.length - ((n : Int)).toNat by omega)
      have HI := Lib.hid (And.intro hlt (And.intro (range_mod hsr HE.out.lo (fun c => c)) (show n ≤ 1048576 by have := HA.out.2; omega)))
      clear hlt hn hs hsr
      go_upto_region 7 with fail
      refine HD.wl_begin ?_
      refine HD.wl_takeF (d := some 22) (v := (.int .i64 (n : Int))) (by kernel_rfl) rfl rfl (y_move rfl (by kernel_rfl)) ?_
      refine HD.wl_takeF (d := some 23) (v := (.slice (some ⟨b, o, none⟩) ss.length c)) (by kernel_rfl) rfl rfl (y_move rfl (by kernel_rfl)) ?_
      refine HD.wl_takeF (d := some 24) (v := (.int .i64 (ss.length : Int))) (by kernel_rfl) rfl rfl (y_lenst (A := some ⟨b, o, none⟩) (c := c) rfl (by kernel_rfl)) ?_
      refine HD.wl_takeF (d := some 25) (v := (.bool true)) (by kernel_rfl) rfl rfl (y_lssi d1 rfl (by kernel_rfl) (by kernel_rfl)) ?_
      refine HD.wl_norm (a' := ⟨List.toArray ((.slice (some ⟨b, o, none⟩) ss.length c)::u1::u2::(.pointer (some ⟨hp, 0, none⟩))::(.pointer (some ⟨hr, 0, none⟩))::u5::(.int .i64 (n : Int))::u7::u8::u9::u10::u11::u12::u13::u14::u15::u16::u17::u18::u19::u20::u21::(.int .i64 (n : Int))::(.slice (some ⟨b, o, none⟩) ss.length c)::(.int .i64 (ss.length : Int))::(.bool true)::u26::u27::u28::u29::u30::u31::u32::u33::u34::u35::u36::u37::u38::u39::u40::u41::u42::u43::u44::u45::u46::u47::u48::u49::u50::u51::u52::u53::u54::u55::u56::u57::u58::u59::u60::u61::u62::u63::u64::u65::u66::u67::u68::u69::u70::u71::u72::u73::u74::u75::u76::u77::u78::u79::u80::u81::u82::u83::u84::u85::u86::u87::u88::u89::u90::u91::u92::u93::u94::u95::u96::u97::u98::u99::u100::u101::u102::u103::u104::u105::u106::u107::u108::u109::u110::u111::u112::u113::u114::u115::u116::u117::u118::u119::u120::u121::u122::u123::u124::u125::u126::u127::u128::u129::u130::u131::u132::[]), []⟩) (by kernel_rfl) ?_
      refine HD.wl_done ?_
      go_upto_region 9 with fail
      refine HD.wl_begin ?_
      refine HD.wl_takeF (d := some 28) (v := (.slice (some ⟨b, o, none⟩) ss.length c)) (by kernel_rfl) rfl rfl (y_move rfl (by kernel_rfl)) ?_
      refine HD.wl_takeF (d := some 29) (v := (.int .i64 (n : Int))) (by kernel_rfl) rfl rfl (y_move rfl (by kernel_rfl)) ?_
      refine HD.wl_takeF (d := some 30) (v := (.pointer (some ⟨b, o + n * 45, none⟩))) (by kernel_rfl) rfl rfl (y_ixst (c := c) rfl (by kernel_rfl) (by kernel_rfl) HI.out.1) ?_
      refine HD.wl_takeF (d := some 31) (v := (.agg s.L.toArray)) (by kernel_rfl) rfl rfl (y_step rfl (by kernel_rfl) HI.out.2.1) ?_
      obtain ⟨h7, hh7⟩ : ∃ h7, h7 = wr.heap.size := ⟨_, rfl⟩
      refine HD.wl_takeF (d := some 7) (v := (.pointer (some ⟨h7, 0, none⟩))) (by kernel_rfl) rfl rfl (by rw [hh7]; exact y_allocST rfl) ?_
      refine wl_stF rfl h7 s (by kernel_rfl) rfl rfl (by kernel_rfl) (by kernel_rfl) (by rw [hh7]; exact Blk.new _ _ _) ?_
      have hF := fresh_st wr s
      rw [← hh7] at hF
      obtain ⟨w2, hw2⟩ : ∃ w2, w2 = ((wr.alloc (.cells stp0.L.toArray 73)).setCells h7 0 s.L) := ⟨_, rfl⟩
      change HD.WL _ _ _ _ ((wr.alloc (.cells stp0.L.toArray 73)).setCells h7 0 s.L)
      rw [← hw2] at hF ⊢
      have H2 := Lib.hid (And.intro hF.2 (HE.out.fresh hF.1 (Nat.le_of_eq hh7.symm) hF.2.lt))
      have HE2 := Lib.hid (HE.out.mod0 hF.1)
      clear hF hw2 hh7
      refine HD.wl_norm (a' := ⟨List.toArray ((.slice (some ⟨b, o, none⟩) ss.length c)::u1::u2::(.pointer (some ⟨hp, 0, none⟩))::(.pointer (some ⟨hr, 0, none⟩))::u5::(.int .i64 (n : Int))::(.pointer (some ⟨h7, 0, none⟩))::u8::u9::u10::u11::u12::u13::u14::u15::u16::u17::u18::u19::u20::u21::(.int .i64 (n : Int))::(.slice (some ⟨b, o, none⟩) ss.length c)::(.int .i64 (ss.length : Int))::(.bool true)::u26::u27::(.slice (some ⟨b, o, none⟩) ss.length c)::(.int .i64 (n : Int))::(.pointer (some ⟨b, o + n * 45, none⟩))::(.agg s.L.toArray)::u32::u33::u34::u35::u36::u37::u38::u39::u40::u41::u42::u43::u44::u45::u46::u47::u48::u49::u50::u51::u52::u53::u54::u55::u56::u57::u58::u59::u60::u61::u62::u63::u64::u65::u66::u67::u68::u69::u70::u71::u72::u73::u74::u75::u76::u77::u78::u79::u80::u81::u82::u83::u84::u85::u86::u87::u88::u89::u90::u91::u92::u93::u94::u95::u96::u97::u98::u99::u100::u101::u102::u103::u104::u105::u106::u107::u108::u109::u110::u111::u112::u113::u114::u115::u116::u117::u118::u119::u120::u121::u122::u123::u124::u125::u126::u127::u128::u129::u130::u131::u132::[]), []⟩) (by kernel_rfl) ?_
      refine HD.wl_done ?_
      go_upto_region 10 with fail
      refine HD.wl_begin ?_
      refine HD.wl_takeF (d := some 32) (v := (.pointer (some ⟨h7, 1, none⟩))) (by kernel_rfl) rfl rfl (y_fst (k := 1) (by decide) rfl (by kernel_rfl)) ?_
      refine HD.wl_takeF (d := some 33) (v := (.int .i64 s.on)) (by kernel_rfl) rfl rfl (y_int rfl (by kernel_rfl) (stAt (blk_range H2.out.1)).on) ?_
      refine HD.wl_takeF (d := some 34) (v := (.int .i64 (s.sel : Int))) (by kernel_rfl) rfl rfl (y_and1 rfl (by kernel_rfl)) ?_
      refine HD.wl_takeF (d := some 8) (v := (.int .i64 (s.sel : Int))) (by kernel_rfl) rfl rfl (y_assign rfl (by kernel_rfl)) ?_
      refine HD.wl_norm (a' := ⟨List.toArray ((.slice (some ⟨b, o, none⟩) ss.length c)::u1::u2::(.pointer (some ⟨hp, 0, none⟩))::(.pointer (some ⟨hr, 0, none⟩))::u5::(.int .i64 (n : Int))::(.pointer (some ⟨h7, 0, none⟩))::(.int .i64 (s.sel : Int))::u9::u10::u11::u12::u13::u14::u15::u16::u17::u18::u19::u20::u21::(.int .i64 (n : Int))::(.slice (some ⟨b, o, none⟩) ss.length c)::(.int .i64 (ss.length : Int))::(.bool true)::u26::u27::(.slice (some ⟨b, o, none⟩) ss.length c)::(.int .i64 (n : Int))::(.pointer (some ⟨b, o + n * 45, none⟩))::(.agg s.L.toArray)::(.pointer (some ⟨h7, 1, none⟩))::(.int .i64 s.on)::(.int .i64 (s.sel : Int))::u35::u36::u37::u38::u39::u40::u41::u42::u43::u44::u45::u46::u47::u48::u49::u50::u51::u52::u53::u54::u55::u56::u57::u58::u59::u60::u61::u62::u63::u64::u65::u66::u67::u68::u69::u70::u71::u72::u73::u74::u75::u76::u77::u78::u79::u80::u81::u82::u83::u84::u85::u86::u87::u88::u89::u90::u91::u92::u93::u94::u95::u96::u97::u98::u99::u100::u101::u102::u103::u104::u105::u106::u107::u108::u109::u110::u111::u112::u113::u114::u115::u116::u117::u118::u119::u120::u121::u122::u123::u124::u125::u126::u127::u128::u129::u130::u131::u132::[]), []⟩) (by kernel_rfl) ?_
      refine HD.wl_done ?_
      go_upto_region 11 with fail
      refine wp_region_held_drew (S := fun w9 => Blk w9 hp 67 (pp g) ∧ Blk w9 hr 70 (pp r)) (by kernel_rfl) ⟨HE2.out.bp.drew, HE2.out.br.drew⟩ (fun hHeld => HD.WA.out ?_)
      refine HD.wa_take (i := 0) (d := some 35) (v := (.int .i64 (s.sel : Int))) rfl (by kernel_rfl) (by kernel_rfl) (by kernel_rfl) rfl (fun _ _ _ h => h) (Or.inl ⟨by kernel_rfl, fun w9 hw => y_move rfl (by kernel_rfl)⟩) hHeld rfl ?_
      refine HD.wa_take (i := 1) (d := some 36) (v := (.pointer (some ⟨hp, s.sel, none⟩))) rfl (by kernel_rfl) (by kernel_rfl) (by kernel_rfl) rfl (fun _ _ _ h => h) (Or.inl ⟨by kernel_rfl, fun w9 hw => y_ixpp rfl (by kernel_rfl) (by kernel_rfl) s.sel_lt⟩) hHeld rfl ?_
      refine HD.wa_take (i := 2) (d := some 37) (v := (.pointer (some ⟨g s.sel, 0, none⟩))) rfl (by kernel_rfl) (by kernel_rfl) (by kernel_rfl) rfl (fun _ _ _ h => h) (Or.inl ⟨by kernel_rfl, fun w9 hw => y_ldp rfl (by kernel_rfl) ((hw.1.cell _).trans (pp_get g s.sel_lt)) (by kernel_rfl)⟩) hHeld rfl ?_
      refine HD.wa_take (i := 3) (d := some 38) (v := (.int .i64 (s.sel : Int))) rfl (by kernel_rfl) (by kernel_rfl) (by kernel_rfl) rfl (fun _ _ _ h => h) (Or.inl ⟨by kernel_rfl, fun w9 hw => y_move rfl (by kernel_rfl)⟩) hHeld rfl ?_
      refine HD.wa_take (i := 4) (d := some 39) (v := (.pointer (some ⟨hr, s.sel, none⟩))) rfl (by kernel_rfl) (by kernel_rfl) (by kernel_rfl) rfl (fun _ _ _ h => h) (Or.inl ⟨by kernel_rfl, fun w9 hw => y_ixpr rfl (by kernel_rfl) (by kernel_rfl) s.sel_lt⟩) hHeld rfl ?_
      refine HD.wa_take (i := 5) (d := some 40) (v := (.pointer (some ⟨r s.sel, 0, none⟩))) rfl (by kernel_rfl) (by kernel_rfl) (by kernel_rfl) rfl (fun _ _ _ h => h) (Or.inl ⟨by kernel_rfl, fun w9 hw => y_ldr rfl (by kernel_rfl) ((hw.2.cell _).trans (pp_get r s.sel_lt)) (by kernel_rfl)⟩) hHeld rfl ?_
      refine HD.wa_take (i := 6) (d := some 9) (v := (.pointer (some ⟨g s.sel, 0, none⟩))) rfl (by kernel_rfl) (by kernel_rfl) (by kernel_rfl) rfl (fun _ _ _ h => h) (Or.inl ⟨by kernel_rfl, fun w9 hw => y_assign rfl (by kernel_rfl)⟩) hHeld rfl ?_
      refine HD.wa_take (i := 7) (d := some 10) (v := (.pointer (some ⟨r s.sel, 0, none⟩))) rfl (by kernel_rfl) (by kernel_rfl) (by kernel_rfl) rfl (fun _ _ _ h => h) (Or.inl ⟨by kernel_rfl, fun w9 hw => y_assign rfl (by kernel_rfl)⟩) hHeld rfl ?_
      refine HD.wa_norm (a' := ⟨List.toArray ((.slice (some ⟨b, o, none⟩) ss.length c)::u1::u2::(.pointer (some ⟨hp, 0, none⟩))::(.pointer (some ⟨hr, 0, none⟩))::u5::(.int .i64 (n : Int))::(.pointer (some ⟨h7, 0, none⟩))::(.int .i64 (s.sel : Int))::(.pointer (some ⟨g s.sel, 0, none⟩))::(.pointer (some ⟨r s.sel, 0, none⟩))::u11::u12::u13::u14::u15::u16::u17::u18::u19::u20::u21::(.int .i64 (n : Int))::(.slice (some ⟨b, o, none⟩) ss.length c)::(.int .i64 (ss.length : Int))::(.bool true)::u26::u27::(.slice (some ⟨b, o, none⟩) ss.length c)::(.int .i64 (n : Int))::(.pointer (some ⟨b, o + n * 45, none⟩))::(.agg s.L.toArray)::(.pointer (some ⟨h7, 1, none⟩))::(.int .i64 s.on)::(.int .i64 (s.sel : Int))::(.int .i64 (s.sel : Int))::(.pointer (some ⟨hp, s.sel, none⟩))::(.pointer (some ⟨g s.sel, 0, none⟩))::(.int .i64 (s.sel : Int))::(.pointer (some ⟨hr, s.sel, none⟩))::(.pointer (some ⟨r s.sel, 0, none⟩))::u41::u42::u43::u44::u45::u46::u47::u48::u49::u50::u51::u52::u53::u54::u55::u56::u57::u58::u59::u60::u61::u62::u63::u64::u65::u66::u67::u68::u69::u70::u71::u72::u73::u74::u75::u76::u77::u78::u79::u80::u81::u82::u83::u84::u85::u86::u87::u88::u89::u90::u91::u92::u93::u94::u95::u96::u97::u98::u99::u100::u101::u102::u103::u104::u105::u106::u107::u108::u109::u110::u111::u112::u113::u114::u115::u116::u117::u118::u119::u120::u121::u122::u123::u124::u125::u126::u127::u128::u129::u130::u131::u132::[]), []⟩) (by kernel_rfl) ?_
      refine HD.wa_done (by kernel_rfl) ?_
      cases hnn : s.none_ with
      | true =>
        have HN := Lib.hid hnn
        go_upto_region 12 with fail
        refine HD.wl_begin ?_
        refine HD.wl_takeF (d := some 41) (v := (.pointer (some ⟨h7, 2, none⟩))) (by kernel_rfl) rfl rfl (y_fst (k := 2) (by decide) rfl (by kernel_rfl)) ?_
        refine HD.wl_takeF (d := some 42) (v := (.bool true)) (by kernel_rfl) rfl rfl (y_bool rfl (by kernel_rfl) (by have h9 := (stAt (blk_range H2.out.1.drew)).none_; rw [HN.out] at h9; exact h9) (by kernel_rfl)) ?_
        refine HD.wl_norm (a' := ⟨List.toArray ((.slice (some ⟨b, o, none⟩) ss.length c)::u1::u2::(.pointer (some ⟨hp, 0, none⟩))::(.pointer (some ⟨hr, 0, none⟩))::u5::(.int .i64 (n : Int))::(.pointer (some ⟨h7, 0, none⟩))::(.int .i64 (s.sel : Int))::(.pointer (some ⟨g s.sel, 0, none⟩))::(.pointer (some ⟨r s.sel, 0, none⟩))::u11::u12::u13::u14::u15::u16::u17::u18::u19::u20::u21::(.int .i64 (n : Int))::(.slice (some ⟨b, o, none⟩) ss.length c)::(.int .i64 (ss.length : Int))::(.bool true)::u26::u27::(.slice (some ⟨b, o, none⟩) ss.length c)::(.int .i64 (n : Int))::(.pointer (some ⟨b, o + n * 45, none⟩))::(.agg s.L.toArray)::(.pointer (some ⟨h7, 1, none⟩))::(.int .i64 s.on)::(.int .i64 (s.sel : Int))::(.int .i64 (s.sel : Int))::(.pointer (some ⟨hp, s.sel, none⟩))::(.pointer (some ⟨g s.sel, 0, none⟩))::(.int .i64 (s.sel : Int))::(.pointer (some ⟨hr, s.sel, none⟩))::(.pointer (some ⟨r s.sel, 0, none⟩))::(.pointer (some ⟨h7, 2, none⟩))::(.bool true)::u43::u44::u45::u46::u47::u48::u49::u50::u51::u52::u53::u54::u55::u56::u57::u58::u59::u60::u61::u62::u63::u64::u65::u66::u67::u68::u69::u70::u71::u72::u73::u74::u75::u76::u77::u78::u79::u80::u81::u82::u83::u84::u85::u86::u87::u88::u89::u90::u91::u92::u93::u94::u95::u96::u97::u98::u99::u100::u101::u102::u103::u104::u105::u106::u107::u108::u109::u110::u111::u112::u113::u114::u115::u116::u117::u118::u119::u120::u121::u122::u123::u124::u125::u126::u127::u128::u129::u130::u131::u132::[]), []⟩) (by kernel_rfl) ?_
        refine HD.wl_done ?_
        go_upto_region 13 with fail
        refine HD.wl_begin ?_
        obtain ⟨rb, hrb⟩ : ∃ rb, rb = w2.heap.size := ⟨_, rfl⟩
        refine HD.wl_callF (d := some 43) (v := (.pointer (some ⟨rb, 0, none⟩))) (by kernel_rfl) rfl rfl fun K hK => ?_
        refine op_c0 (fun _ _ => rfl) rfl (rnew_any _) ?_
        rintro e w4 ⟨rfl, hw4⟩
        have hb4 : Blk w4 rb 79 #[.slice none 0 0] := by rw [hw4, hrb]; exact Blk.new _ _ _
        have md4 : Mod no w2 w4 := by rw [hw4]; exact ((Mod.refl no w2).drew).alloc _
        have HE4 := Lib.hid (HE2.out.mod0 md4)
        have H4 := Lib.hid (And.intro (H2.out.1.mod md4 (fun c => c)) (And.intro H2.out.2.2.2.2.1 (show Sel w4 g r v l u5 (.pointer none) rb (.slice none 0 0) [] s.none_ from .inr ⟨rfl, rat_new hb4, rfl, rfl, HN.out, (HE2.out.fresh md4 (Nat.le_of_eq hrb.symm) hb4.lt).2.2.2.1⟩)))
        rw [show w2.drew.heap.size = rb from hrb.symm]
        clear hb4 md4 hw4 hrb
        refine ⟨_, rfl, hK _ ?_⟩
        clear hK K
        refine HD.wl_takeF (d := some 9) (v := (.pointer none)) (by kernel_rfl) rfl rfl (y_assign rfl (by kernel_rfl)) ?_
        refine HD.wl_takeF (d := some 10) (v := (.pointer (some ⟨rb, 0, none⟩))) (by kernel_rfl) rfl rfl (y_assign rfl (by kernel_rfl)) ?_
        refine HD.wl_norm (a' := ⟨List.toArray ((.slice (some ⟨b, o, none⟩) ss.length c)::u1::u2::(.pointer (some ⟨hp, 0, none⟩))::(.pointer (some ⟨hr, 0, none⟩))::u5::(.int .i64 (n : Int))::(.pointer (some ⟨h7, 0, none⟩))::(.int .i64 (s.sel : Int))::(.pointer none)::(.pointer (some ⟨rb, 0, none⟩))::u11::u12::u13::u14::u15::u16::u17::u18::u19::u20::u21::(.int .i64 (n : Int))::(.slice (some ⟨b, o, none⟩) ss.length c)::(.int .i64 (ss.length : Int))::(.bool true)::u26::u27::(.slice (some ⟨b, o, none⟩) ss.length c)::(.int .i64 (n : Int))::(.pointer (some ⟨b, o + n * 45, none⟩))::(.agg s.L.toArray)::(.pointer (some ⟨h7, 1, none⟩))::(.int .i64 s.on)::(.int .i64 (s.sel : Int))::(.int .i64 (s.sel : Int))::(.pointer (some ⟨hp, s.sel, none⟩))::(.pointer (some ⟨g s.sel, 0, none⟩))::(.int .i64 (s.sel : Int))::(.pointer (some ⟨hr, s.sel, none⟩))::(.pointer (some ⟨r s.sel, 0, none⟩))::(.pointer (some ⟨h7, 2, none⟩))::(.bool true)::(.pointer (some ⟨rb, 0, none⟩))::u44::u45::u46::u47::u48::u49::u50::u51::u52::u53::u54::u55::u56::u57::u58::u59::u60::u61::u62::u63::u64::u65::u66::u67::u68::u69::u70::u71::u72::u73::u74::u75::u76::u77::u78::u79::u80::u81::u82::u83::u84::u85::u86::u87::u88::u89::u90::u91::u92::u93::u94::u95::u96::u97::u98::u99::u100::u101::u102::u103::u104::u105::u106::u107::u108::u109::u110::u111::u112::u113::u114::u115::u116::u117::u118::u119::u120::u121::u122::u123::u124::u125::u126::u127::u128::u129::u130::u131::u132::[]), []⟩) (by kernel_rfl) ?_
        refine HD.wl_done ?_
        by_cases hk : s.kind = 1
        · have d1 : decide (s.kind = 1) = true := decide_eq_true hk
          go_upto_region 14 with fail
          rename (∀ (a : Act) (w : World), Code.wp _ (Code.seq (Code.seq (Code.region 17 _ _) _) _) _ a w → _) => hK17
          have HK17 := Lib.hid hK17
          clear hK17
          refine HD.wl_begin ?_
          refine HD.wl_takeF (d := some 44) (v := (.pointer (some ⟨h7, 0, none⟩))) (by kernel_rfl) rfl rfl (y_fst (k := 0) (by decide) rfl (by kernel_rfl)) ?_
          refine HD.wl_takeF (d := some 45) (v := (.int .i64 s.kind)) (by kernel_rfl) rfl rfl (y_int rfl (by kernel_rfl) (stAt (blk_range H4.out.1)).kind) ?_
          refine HD.wl_takeF (d := some 46) (v := (.bool true)) (by kernel_rfl) rfl rfl (y_eqi (n := 1) d1 rfl (by kernel_rfl) (by kernel_rfl)) ?_
          refine HD.wl_takeF (d := some 47) (v := (.bool true)) (by kernel_rfl) rfl rfl (y_move rfl (by kernel_rfl)) ?_
          refine HD.wl_takeF (d := some 48) (v := (.pointer (some ⟨h7, 2, none⟩))) (by kernel_rfl) rfl rfl (y_fst (k := 2) (by decide) rfl (by kernel_rfl)) ?_
          refine HD.wl_takeF (d := some 49) (v := (.bool true)) (by kernel_rfl) rfl rfl (y_bool rfl (by kernel_rfl) (by have h9 := (stAt (blk_range H4.out.1)).none_; rw [HN.out] at h9; exact h9) (by kernel_rfl)) ?_
          refine HD.wl_takeF (d := some 50) (v := (.bool false)) (by kernel_rfl) rfl rfl (y_not (b := true) rfl (by kernel_rfl)) ?_
          refine HD.wl_takeF (d := some 51) (v := (.bool false)) (by kernel_rfl) rfl rfl (y_pick (b := true) rfl (by kernel_rfl) (by kernel_rfl)) ?_
          refine HD.wl_norm (a' := ⟨List.toArray ((.slice (some ⟨b, o, none⟩) ss.length c)::u1::u2::(.pointer (some ⟨hp, 0, none⟩))::(.pointer (some ⟨hr, 0, none⟩))::u5::(.int .i64 (n : Int))::(.pointer (some ⟨h7, 0, none⟩))::(.int .i64 (s.sel : Int))::(.pointer none)::(.pointer (some ⟨rb, 0, none⟩))::u11::u12::u13::u14::u15::u16::u17::u18::u19::u20::u21::(.int .i64 (n : Int))::(.slice (some ⟨b, o, none⟩) ss.length c)::(.int .i64 (ss.length : Int))::(.bool true)::u26::u27::(.slice (some ⟨b, o, none⟩) ss.length c)::(.int .i64 (n : Int))::(.pointer (some ⟨b, o + n * 45, none⟩))::(.agg s.L.toArray)::(.pointer (some ⟨h7, 1, none⟩))::(.int .i64 s.on)::(.int .i64 (s.sel : Int))::(.int .i64 (s.sel : Int))::(.pointer (some ⟨hp, s.sel, none⟩))::(.pointer (some ⟨g s.sel, 0, none⟩))::(.int .i64 (s.sel : Int))::(.pointer (some ⟨hr, s.sel, none⟩))::(.pointer (some ⟨r s.sel, 0, none⟩))::(.pointer (some ⟨h7, 2, none⟩))::(.bool true)::(.pointer (some ⟨rb, 0, none⟩))::(.pointer (some ⟨h7, 0, none⟩))::(.int .i64 s.kind)::(.bool true)::(.bool true)::(.pointer (some ⟨h7, 2, none⟩))::(.bool true)::(.bool false)::(.bool false)::u52::u53::u54::u55::u56::u57::u58::u59::u60::u61::u62::u63::u64::u65::u66::u67::u68::u69::u70::u71::u72::u73::u74::u75::u76::u77::u78::u79::u80::u81::u82::u83::u84::u85::u86::u87::u88::u89::u90::u91::u92::u93::u94::u95::u96::u97::u98::u99::u100::u101::u102::u103::u104::u105::u106::u107::u108::u109::u110::u111::u112::u113::u114::u115::u116::u117::u118::u119::u120::u121::u122::u123::u124::u125::u126::u127::u128::u129::u130::u131::u132::[]), []⟩) (by kernel_rfl) ?_
          refine HD.wl_done ?_
          go_wp2_with fail
          refine HK17.out _ _ (tail_any HE4.out (H4.out.2.2) H4.out.1 H4.out.2.1 HI.out.2.2 HI.out.2.2 (fun d u c a w h => by cases d <;> exact h) ?_)
          intro O9 v9 l9 Z9 kv9 ks9 x64 x65 x66 x67 x68 x69 x70 x71 x72 x73 x74 x75 x76 x77 x78 x79 x80 x81 x82 x83 x84 x85 x86 x87 x88 W9 hE9
          have H9 := Lib.hid hE9
          clear hE9
          go_upto_region 8 with fail
          refine HD.wl_begin ?_
          refine HD.wl_takeF (d := some 26) (v := (.int .i64 (n : Int))) (by kernel_rfl) rfl rfl (y_move rfl (by kernel_rfl)) ?_
          refine HD.wl_takeF (d := some 27) (v := (.int .i64 ((n : Int) + 1))) (by kernel_rfl) rfl rfl (y_addi (by have := HI.out.2.2; omega) rfl (by kernel_rfl) (by kernel_rfl)) ?_
          refine HD.wl_takeF (d := some 6) (v := (.int .i64 ((n : Int) + 1))) (by kernel_rfl) rfl rfl (y_assign rfl (by kernel_rfl)) ?_
          refine HD.wl_norm (a' := ⟨List.toArray ((.slice (some ⟨b, o, none⟩) ss.length c)::u1::u2::(.pointer (some ⟨hp, 0, none⟩))::(.pointer (some ⟨hr, 0, none⟩))::(kv9)::(.int .i64 ((n : Int) + 1))::(.pointer (some ⟨h7, 0, none⟩))::(.int .i64 (s.sel : Int))::(.pointer none)::(.pointer (some ⟨rb, 0, none⟩))::u11::u12::u13::u14::u15::u16::u17::u18::u19::u20::u21::(.int .i64 (n : Int))::(.slice (some ⟨b, o, none⟩) ss.length c)::(.int .i64 (ss.length : Int))::(.bool true)::(.int .i64 (n : Int))::(.int .i64 ((n : Int) + 1))::(.slice (some ⟨b, o, none⟩) ss.length c)::(.int .i64 (n : Int))::(.pointer (some ⟨b, o + n * 45, none⟩))::(.agg s.L.toArray)::(.pointer (some ⟨h7, 1, none⟩))::(.int .i64 s.on)::(.int .i64 (s.sel : Int))::(.int .i64 (s.sel : Int))::(.pointer (some ⟨hp, s.sel, none⟩))::(.pointer (some ⟨g s.sel, 0, none⟩))::(.int .i64 (s.sel : Int))::(.pointer (some ⟨hr, s.sel, none⟩))::(.pointer (some ⟨r s.sel, 0, none⟩))::(.pointer (some ⟨h7, 2, none⟩))::(.bool true)::(.pointer (some ⟨rb, 0, none⟩))::(.pointer (some ⟨h7, 0, none⟩))::(.int .i64 s.kind)::(.bool true)::(.bool true)::(.pointer (some ⟨h7, 2, none⟩))::(.bool true)::(.bool false)::(.bool false)::u52::u53::u54::u55::u56::u57::u58::u59::u60::u61::u62::u63::(x64)::(x65)::(x66)::(x67)::(x68)::(x69)::(x70)::(x71)::(x72)::(x73)::(x74)::(x75)::(x76)::(x77)::(x78)::(x79)::(x80)::(x81)::(x82)::(x83)::(x84)::(x85)::(x86)::(x87)::(x88)::u89::u90::u91::u92::u93::u94::u95::u96::u97::u98::u99::u100::u101::u102::u103::u104::u105::u106::u107::u108::u109::u110::u111::u112::u113::u114::u115::u116::u117::u118::u119::u120::u121::u122::u123::u124::u125::u126::u127::u128::u129::u130::u131::u132::[]), []⟩) (by kernel_rfl) ?_
          refine HD.wl_done ?_
          exact ⟨⟨_, _, _, _, _, _, _, _, _, _, _, _, _, _, _, _, _, _, _, _, _, _, _, _, _, _, _, _, _, _, _, _, _, _, _, _, _, _, _, _, _, _, _, _, _, _, _, _, _, _, _, _, _, _, _, _, _, _, _, _, _, _, _, _, _, _, _, _, _, _, _, _, _, _, ⟨O9, g, r, v9, l9, Z9, ks9, n + 1, HI.out.1, rfl, H9.out⟩, rfl⟩, HM.out⟩
        · have d1 : decide (s.kind = 1) = false := decide_eq_false hk
          go_upto_region 14 with fail
          rename (∀ (a : Act) (w : World), Code.wp _ (Code.seq (Code.seq (Code.region 17 _ _) _) _) _ a w → _) => hK17
          have HK17 := Lib.hid hK17
          clear hK17
          refine HD.wl_begin ?_
          refine HD.wl_takeF (d := some 44) (v := (.pointer (some ⟨h7, 0, none⟩))) (by kernel_rfl) rfl rfl (y_fst (k := 0) (by decide) rfl (by kernel_rfl)) ?_
          refine HD.wl_takeF (d := some 45) (v := (.int .i64 s.kind)) (by kernel_rfl) rfl rfl (y_int rfl (by kernel_rfl) (stAt (blk_range H4.out.1)).kind) ?_
          refine HD.wl_takeF (d := some 46) (v := (.bool false)) (by kernel_rfl) rfl rfl (y_eqi (n := 1) d1 rfl (by kernel_rfl) (by kernel_rfl)) ?_
          refine HD.wl_takeF (d := some 47) (v := (.bool false)) (by kernel_rfl) rfl rfl (y_move rfl (by kernel_rfl)) ?_
          refine HD.wl_skipF (d := some 48) (by kernel_rfl) rfl rfl ?_
          refine HD.wl_skipF (d := some 49) (by kernel_rfl) rfl rfl ?_
          refine HD.wl_skipF (d := some 50) (by kernel_rfl) rfl rfl ?_
          refine HD.wl_takeF (d := some 51) (v := (.bool false)) (by kernel_rfl) rfl rfl (y_pick (b := false) rfl (by kernel_rfl) (by kernel_rfl)) ?_
          refine HD.wl_norm (a' := ⟨List.toArray ((.slice (some ⟨b, o, none⟩) ss.length c)::u1::u2::(.pointer (some ⟨hp, 0, none⟩))::(.pointer (some ⟨hr, 0, none⟩))::u5::(.int .i64 (n : Int))::(.pointer (some ⟨h7, 0, none⟩))::(.int .i64 (s.sel : Int))::(.pointer none)::(.pointer (some ⟨rb, 0, none⟩))::u11::u12::u13::u14::u15::u16::u17::u18::u19::u20::u21::(.int .i64 (n : Int))::(.slice (some ⟨b, o, none⟩) ss.length c)::(.int .i64 (ss.length : Int))::(.bool true)::u26::u27::(.slice (some ⟨b, o, none⟩) ss.length c)::(.int .i64 (n : Int))::(.pointer (some ⟨b, o + n * 45, none⟩))::(.agg s.L.toArray)::(.pointer (some ⟨h7, 1, none⟩))::(.int .i64 s.on)::(.int .i64 (s.sel : Int))::(.int .i64 (s.sel : Int))::(.pointer (some ⟨hp, s.sel, none⟩))::(.pointer (some ⟨g s.sel, 0, none⟩))::(.int .i64 (s.sel : Int))::(.pointer (some ⟨hr, s.sel, none⟩))::(.pointer (some ⟨r s.sel, 0, none⟩))::(.pointer (some ⟨h7, 2, none⟩))::(.bool true)::(.pointer (some ⟨rb, 0, none⟩))::(.pointer (some ⟨h7, 0, none⟩))::(.int .i64 s.kind)::(.bool false)::(.bool false)::(undef)::(undef)::(undef)::(.bool false)::u52::u53::u54::u55::u56::u57::u58::u59::u60::u61::u62::u63::u64::u65::u66::u67::u68::u69::u70::u71::u72::u73::u74::u75::u76::u77::u78::u79::u80::u81::u82::u83::u84::u85::u86::u87::u88::u89::u90::u91::u92::u93::u94::u95::u96::u97::u98::u99::u100::u101::u102::u103::u104::u105::u106::u107::u108::u109::u110::u111::u112::u113::u114::u115::u116::u117::u118::u119::u120::u121::u122::u123::u124::u125::u126::u127::u128::u129::u130::u131::u132::[]), []⟩) (by kernel_rfl) ?_
          refine HD.wl_done ?_
          go_wp2_with fail
          refine HK17.out _ _ (tail_any HE4.out (H4.out.2.2) H4.out.1 H4.out.2.1 HI.out.2.2 HI.out.2.2 (fun d u c a w h => by cases d <;> exact h) ?_)
          intro O9 v9 l9 Z9 kv9 ks9 x64 x65 x66 x67 x68 x69 x70 x71 x72 x73 x74 x75 x76 x77 x78 x79 x80 x81 x82 x83 x84 x85 x86 x87 x88 W9 hE9
          have H9 := Lib.hid hE9
          clear hE9
          go_upto_region 8 with fail
          refine HD.wl_begin ?_
          refine HD.wl_takeF (d := some 26) (v := (.int .i64 (n : Int))) (by kernel_rfl) rfl rfl (y_move rfl (by kernel_rfl)) ?_
          refine HD.wl_takeF (d := some 27) (v := (.int .i64 ((n : Int) + 1))) (by kernel_rfl) rfl rfl (y_addi (by have := HI.out.2.2; omega) rfl (by kernel_rfl) (by kernel_rfl)) ?_
          refine HD.wl_takeF (d := some 6) (v := (.int .i64 ((n : Int) + 1))) (by kernel_rfl) rfl rfl (y_assign rfl (by kernel_rfl)) ?_
          refine HD.wl_norm (a' := ⟨List.toArray ((.slice (some ⟨b, o, none⟩) ss.length c)::u1::u2::(.pointer (some ⟨hp, 0, none⟩))::(.pointer (some ⟨hr, 0, none⟩))::(kv9)::(.int .i64 ((n : Int) + 1))::(.pointer (some ⟨h7, 0, none⟩))::(.int .i64 (s.sel : Int))::(.pointer none)::(.pointer (some ⟨rb, 0, none⟩))::u11::u12::u13::u14::u15::u16::u17::u18::u19::u20::u21::(.int .i64 (n : Int))::(.slice (some ⟨b, o, none⟩) ss.length c)::(.int .i64 (ss.length : Int))::(.bool true)::(.int .i64 (n : Int))::(.int .i64 ((n : Int) + 1))::(.slice (some ⟨b, o, none⟩) ss.length c)::(.int .i64 (n : Int))::(.pointer (some ⟨b, o + n * 45, none⟩))::(.agg s.L.toArray)::(.pointer (some ⟨h7, 1, none⟩))::(.int .i64 s.on)::(.int .i64 (s.sel : Int))::(.int .i64 (s.sel : Int))::(.pointer (some ⟨hp, s.sel, none⟩))::(.pointer (some ⟨g s.sel, 0, none⟩))::(.int .i64 (s.sel : Int))::(.pointer (some ⟨hr, s.sel, none⟩))::(.pointer (some ⟨r s.sel, 0, none⟩))::(.pointer (some ⟨h7, 2, none⟩))::(.bool true)::(.pointer (some ⟨rb, 0, none⟩))::(.pointer (some ⟨h7, 0, none⟩))::(.int .i64 s.kind)::(.bool false)::(.bool false)::(undef)::(undef)::(undef)::(.bool false)::u52::u53::u54::u55::u56::u57::u58::u59::u60::u61::u62::u63::(x64)::(x65)::(x66)::(x67)::(x68)::(x69)::(x70)::(x71)::(x72)::(x73)::(x74)::(x75)::(x76)::(x77)::(x78)::(x79)::(x80)::(x81)::(x82)::(x83)::(x84)::(x85)::(x86)::(x87)::(x88)::u89::u90::u91::u92::u93::u94::u95::u96::u97::u98::u99::u100::u101::u102::u103::u104::u105::u106::u107::u108::u109::u110::u111::u112::u113::u114::u115::u116::u117::u118::u119::u120::u121::u122::u123::u124::u125::u126::u127::u128::u129::u130::u131::u132::[]), []⟩) (by kernel_rfl) ?_
          refine HD.wl_done ?_
          exact ⟨⟨_, _, _, _, _, _, _, _, _, _, _, _, _, _, _, _, _, _, _, _, _, _, _, _, _, _, _, _, _, _, _, _, _, _, _, _, _, _, _, _, _, _, _, _, _, _, _, _, _, _, _, _, _, _, _, _, _, _, _, _, _, _, _, _, _, _, _, _, _, _, _, _, _, _, ⟨O9, g, r, v9, l9, Z9, ks9, n + 1, HI.out.1, rfl, H9.out⟩, rfl⟩, HM.out⟩
      | false =>
        have HN := Lib.hid hnn
        go_upto_region 12 with fail
        refine HD.wl_begin ?_
        refine HD.wl_takeF (d := some 41) (v := (.pointer (some ⟨h7, 2, none⟩))) (by kernel_rfl) rfl rfl (y_fst (k := 2) (by decide) rfl (by kernel_rfl)) ?_
        refine HD.wl_takeF (d := some 42) (v := (.bool false)) (by kernel_rfl) rfl rfl (y_bool rfl (by kernel_rfl) (by have h9 := (stAt (blk_range H2.out.1.drew)).none_; rw [HN.out] at h9; exact h9) (by kernel_rfl)) ?_
        refine HD.wl_norm (a' := ⟨List.toArray ((.slice (some ⟨b, o, none⟩) ss.length c)::u1::u2::(.pointer (some ⟨hp, 0, none⟩))::(.pointer (some ⟨hr, 0, none⟩))::u5::(.int .i64 (n : Int))::(.pointer (some ⟨h7, 0, none⟩))::(.int .i64 (s.sel : Int))::(.pointer (some ⟨g s.sel, 0, none⟩))::(.pointer (some ⟨r s.sel, 0, none⟩))::u11::u12::u13::u14::u15::u16::u17::u18::u19::u20::u21::(.int .i64 (n : Int))::(.slice (some ⟨b, o, none⟩) ss.length c)::(.int .i64 (ss.length : Int))::(.bool true)::u26::u27::(.slice (some ⟨b, o, none⟩) ss.length c)::(.int .i64 (n : Int))::(.pointer (some ⟨b, o + n * 45, none⟩))::(.agg s.L.toArray)::(.pointer (some ⟨h7, 1, none⟩))::(.int .i64 s.on)::(.int .i64 (s.sel : Int))::(.int .i64 (s.sel : Int))::(.pointer (some ⟨hp, s.sel, none⟩))::(.pointer (some ⟨g s.sel, 0, none⟩))::(.int .i64 (s.sel : Int))::(.pointer (some ⟨hr, s.sel, none⟩))::(.pointer (some ⟨r s.sel, 0, none⟩))::(.pointer (some ⟨h7, 2, none⟩))::(.bool false)::u43::u44::u45::u46::u47::u48::u49::u50::u51::u52::u53::u54::u55::u56::u57::u58::u59::u60::u61::u62::u63::u64::u65::u66::u67::u68::u69::u70::u71::u72::u73::u74::u75::u76::u77::u78::u79::u80::u81::u82::u83::u84::u85::u86::u87::u88::u89::u90::u91::u92::u93::u94::u95::u96::u97::u98::u99::u100::u101::u102::u103::u104::u105::u106::u107::u108::u109::u110::u111::u112::u113::u114::u115::u116::u117::u118::u119::u120::u121::u122::u123::u124::u125::u126::u127::u128::u129::u130::u131::u132::[]), []⟩) (by kernel_rfl) ?_
        refine HD.wl_done ?_
        by_cases hk : s.kind = 1
        · have d1 : decide (s.kind = 1) = true := decide_eq_true hk
          go_upto_region 14 with fail
          rename (∀ (a : Act) (w : World), Code.wp _ (Code.seq (Code.seq (Code.region 17 _ _) _) _) _ a w → _) => hK17
          have HK17 := Lib.hid hK17
          clear hK17
          refine HD.wl_begin ?_
          refine HD.wl_takeF (d := some 44) (v := (.pointer (some ⟨h7, 0, none⟩))) (by kernel_rfl) rfl rfl (y_fst (k := 0) (by decide) rfl (by kernel_rfl)) ?_
          refine HD.wl_takeF (d := some 45) (v := (.int .i64 s.kind)) (by kernel_rfl) rfl rfl (y_int rfl (by kernel_rfl) (stAt (blk_range H2.out.1.drew)).kind) ?_
          refine HD.wl_takeF (d := some 46) (v := (.bool true)) (by kernel_rfl) rfl rfl (y_eqi (n := 1) d1 rfl (by kernel_rfl) (by kernel_rfl)) ?_
          refine HD.wl_takeF (d := some 47) (v := (.bool true)) (by kernel_rfl) rfl rfl (y_move rfl (by kernel_rfl)) ?_
          refine HD.wl_takeF (d := some 48) (v := (.pointer (some ⟨h7, 2, none⟩))) (by kernel_rfl) rfl rfl (y_fst (k := 2) (by decide) rfl (by kernel_rfl)) ?_
          refine HD.wl_takeF (d := some 49) (v := (.bool false)) (by kernel_rfl) rfl rfl (y_bool rfl (by kernel_rfl) (by have h9 := (stAt (blk_range H2.out.1.drew)).none_; rw [HN.out] at h9; exact h9) (by kernel_rfl)) ?_
          refine HD.wl_takeF (d := some 50) (v := (.bool true)) (by kernel_rfl) rfl rfl (y_not (b := false) rfl (by kernel_rfl)) ?_
          refine HD.wl_takeF (d := some 51) (v := (.bool true)) (by kernel_rfl) rfl rfl (y_pick (b := true) rfl (by kernel_rfl) (by kernel_rfl)) ?_
          refine HD.wl_norm (a' := ⟨List.toArray ((.slice (some ⟨b, o, none⟩) ss.length c)::u1::u2::(.pointer (some ⟨hp, 0, none⟩))::(.pointer (some ⟨hr, 0, none⟩))::u5::(.int .i64 (n : Int))::(.pointer (some ⟨h7, 0, none⟩))::(.int .i64 (s.sel : Int))::(.pointer (some ⟨g s.sel, 0, none⟩))::(.pointer (some ⟨r s.sel, 0, none⟩))::u11::u12::u13::u14::u15::u16::u17::u18::u19::u20::u21::(.int .i64 (n : Int))::(.slice (some ⟨b, o, none⟩) ss.length c)::(.int .i64 (ss.length : Int))::(.bool true)::u26::u27::(.slice (some ⟨b, o, none⟩) ss.length c)::(.int .i64 (n : Int))::(.pointer (some ⟨b, o + n * 45, none⟩))::(.agg s.L.toArray)::(.pointer (some ⟨h7, 1, none⟩))::(.int .i64 s.on)::(.int .i64 (s.sel : Int))::(.int .i64 (s.sel : Int))::(.pointer (some ⟨hp, s.sel, none⟩))::(.pointer (some ⟨g s.sel, 0, none⟩))::(.int .i64 (s.sel : Int))::(.pointer (some ⟨hr, s.sel, none⟩))::(.pointer (some ⟨r s.sel, 0, none⟩))::(.pointer (some ⟨h7, 2, none⟩))::(.bool false)::u43::(.pointer (some ⟨h7, 0, none⟩))::(.int .i64 s.kind)::(.bool true)::(.bool true)::(.pointer (some ⟨h7, 2, none⟩))::(.bool false)::(.bool true)::(.bool true)::u52::u53::u54::u55::u56::u57::u58::u59::u60::u61::u62::u63::u64::u65::u66::u67::u68::u69::u70::u71::u72::u73::u74::u75::u76::u77::u78::u79::u80::u81::u82::u83::u84::u85::u86::u87::u88::u89::u90::u91::u92::u93::u94::u95::u96::u97::u98::u99::u100::u101::u102::u103::u104::u105::u106::u107::u108::u109::u110::u111::u112::u113::u114::u115::u116::u117::u118::u119::u120::u121::u122::u123::u124::u125::u126::u127::u128::u129::u130::u131::u132::[]), []⟩) (by kernel_rfl) ?_
          refine HD.wl_done ?_
          go_upto_region 15 with fail
          refine wp_region_held_drew (S := fun _ => True) (by kernel_rfl) trivial (fun hHeld => HD.WA.out ?_)
          refine HD.wa_take (i := 0) (d := some 52) (v := (.int .i64 (s.sel : Int))) rfl (by kernel_rfl) (by kernel_rfl) (by kernel_rfl) rfl (fun _ _ _ h => h) (Or.inl ⟨by kernel_rfl, fun w9 hw => y_move rfl (by kernel_rfl)⟩) hHeld rfl ?_
          refine HD.wa_take (i := 1) (d := some 53) (v := (.int .i64 (s.sel : Int))) rfl (by kernel_rfl) (by kernel_rfl) (by kernel_rfl) rfl (fun _ _ _ h => h) (Or.inl ⟨by kernel_rfl, fun w9 hw => y_move rfl (by kernel_rfl)⟩) hHeld rfl ?_
          refine HD.wa_callG _ (i := 2) (d := some 54) rfl (by kernel_rfl) rfl (by kernel_rfl) (fun _ => rfl) fun K hK => ?_
          refine op_c0 (fun _ _ => rfl) rfl (ixnew_any _) ?_
          rintro e w4 ⟨g1, P1, Rs1, rfl, hx1, hm1⟩
          have H4 := Lib.hid (And.intro hx1 hm1)
          clear hx1 hm1
          refine ⟨_, rfl, hK _ _ trivial fun hHeld9 => ?_⟩
          clear hK K hHeld
          have hHeld := hHeld9
          clear hHeld9
          refine HD.wa_take (i := 4) (d := some 56) (v := (.pointer (some ⟨hp, s.sel, none⟩))) rfl (by kernel_rfl) (by kernel_rfl) (by kernel_rfl) rfl (fun _ _ _ h => h) (Or.inl ⟨by kernel_rfl, fun w9 hw => y_ixpp rfl (by kernel_rfl) (by kernel_rfl) s.sel_lt⟩) hHeld rfl ?_
          obtain ⟨r1, hr1⟩ : ∃ r1, r1 = w4.heap.size := ⟨_, rfl⟩
          refine HD.wa_callG _ (i := 3) (d := some 55) rfl (by kernel_rfl) rfl (by kernel_rfl) (fun _ => rfl) fun K hK => ?_
          refine op_c0 (fun _ _ => rfl) rfl (rnew_any _) ?_
          rintro e w5 ⟨rfl, hw5⟩
          have hb5 : Blk w5 r1 79 #[.slice none 0 0] := by rw [hw5, hr1]; exact Blk.new _ _ _
          have md45 : Mod no w4 w5 := by rw [hw5]; exact (Mod.refl no w4).alloc _
          have md5 : Mod no w2 w5 := (((Mod.refl no w2).drew.drew).and_then H4.out.2).and_then md45
          have hsd : Side w5 (fun x => (w2.heap.size ≤ x ∧ x < w4.heap.size) ∨ x = r1) g1 r1 (.slice none 0 0) [] := side_new (H4.out.1.mod md45 (fun _ _ c => c)) hb5 (fun c => by have := c.2; omega) (fun x c => Nat.lt_of_lt_of_le c.2 md45.size)
          have hnew := HE2.out.news s.sel_lt md5 hsd (fun x c => by have h8 : w2.heap.size ≤ w4.heap.size := H4.out.2.size; rcases c with c | c <;> omega)
          have h5p := HE2.out.bp.mod md5 (fun c => c)
          have h5r := HE2.out.br.mod md5 (fun c => c)
          have h57 := H2.out.1.mod md5 (fun c => c)
          have H5 := Lib.hid (And.intro hnew (And.intro h5p (And.intro h5r h57)))
          rw [show w4.heap.size = r1 from hr1.symm]
          clear hb5 md45 md5 hsd hnew h5p h5r h57 hw5 hr1
          refine ⟨_, rfl, hK _ _ trivial fun hHeld9 => ?_⟩
          clear hK K hHeld
          have hHeld := hHeld9
          clear hHeld9
          refine HD.wa_norm (a' := ⟨List.toArray ((.slice (some ⟨b, o, none⟩) ss.length c)::u1::u2::(.pointer (some ⟨hp, 0, none⟩))::(.pointer (some ⟨hr, 0, none⟩))::u5::(.int .i64 (n : Int))::(.pointer (some ⟨h7, 0, none⟩))::(.int .i64 (s.sel : Int))::(.pointer (some ⟨g s.sel, 0, none⟩))::(.pointer (some ⟨r s.sel, 0, none⟩))::u11::u12::u13::u14::u15::u16::u17::u18::u19::u20::u21::(.int .i64 (n : Int))::(.slice (some ⟨b, o, none⟩) ss.length c)::(.int .i64 (ss.length : Int))::(.bool true)::u26::u27::(.slice (some ⟨b, o, none⟩) ss.length c)::(.int .i64 (n : Int))::(.pointer (some ⟨b, o + n * 45, none⟩))::(.agg s.L.toArray)::(.pointer (some ⟨h7, 1, none⟩))::(.int .i64 s.on)::(.int .i64 (s.sel : Int))::(.int .i64 (s.sel : Int))::(.pointer (some ⟨hp, s.sel, none⟩))::(.pointer (some ⟨g s.sel, 0, none⟩))::(.int .i64 (s.sel : Int))::(.pointer (some ⟨hr, s.sel, none⟩))::(.pointer (some ⟨r s.sel, 0, none⟩))::(.pointer (some ⟨h7, 2, none⟩))::(.bool false)::u43::(.pointer (some ⟨h7, 0, none⟩))::(.int .i64 s.kind)::(.bool true)::(.bool true)::(.pointer (some ⟨h7, 2, none⟩))::(.bool false)::(.bool true)::(.bool true)::(.int .i64 (s.sel : Int))::(.int .i64 (s.sel : Int))::(.pointer (some ⟨g1, 0, none⟩))::(.pointer (some ⟨r1, 0, none⟩))::(.pointer (some ⟨hp, s.sel, none⟩))::u57::u58::u59::u60::u61::u62::u63::u64::u65::u66::u67::u68::u69::u70::u71::u72::u73::u74::u75::u76::u77::u78::u79::u80::u81::u82::u83::u84::u85::u86::u87::u88::u89::u90::u91::u92::u93::u94::u95::u96::u97::u98::u99::u100::u101::u102::u103::u104::u105::u106::u107::u108::u109::u110::u111::u112::u113::u114::u115::u116::u117::u118::u119::u120::u121::u122::u123::u124::u125::u126::u127::u128::u129::u130::u131::u132::[]), []⟩) (by kernel_rfl) ?_
          refine HD.wa_callG (i := 5) (d := none) (fun v9 => ⟨List.toArray ((.slice (some ⟨b, o, none⟩) ss.length c)::u1::u2::(.pointer (some ⟨hp, 0, none⟩))::(.pointer (some ⟨hr, 0, none⟩))::u5::(.int .i64 (n : Int))::(.pointer (some ⟨h7, 0, none⟩))::(.int .i64 (s.sel : Int))::(.pointer (some ⟨g s.sel, 0, none⟩))::(.pointer (some ⟨r s.sel, 0, none⟩))::u11::u12::u13::u14::u15::u16::u17::u18::u19::u20::u21::(.int .i64 (n : Int))::(.slice (some ⟨b, o, none⟩) ss.length c)::(.int .i64 (ss.length : Int))::(.bool true)::u26::u27::(.slice (some ⟨b, o, none⟩) ss.length c)::(.int .i64 (n : Int))::(.pointer (some ⟨b, o + n * 45, none⟩))::(.agg s.L.toArray)::(.pointer (some ⟨h7, 1, none⟩))::(.int .i64 s.on)::(.int .i64 (s.sel : Int))::(.int .i64 (s.sel : Int))::(.pointer (some ⟨hp, s.sel, none⟩))::(.pointer (some ⟨g s.sel, 0, none⟩))::(.int .i64 (s.sel : Int))::(.pointer (some ⟨hr, s.sel, none⟩))::(.pointer (some ⟨r s.sel, 0, none⟩))::(.pointer (some ⟨h7, 2, none⟩))::(.bool false)::u43::(.pointer (some ⟨h7, 0, none⟩))::(.int .i64 s.kind)::(.bool true)::(.bool true)::(.pointer (some ⟨h7, 2, none⟩))::(.bool false)::(.bool true)::(.bool true)::(.int .i64 (s.sel : Int))::(.int .i64 (s.sel : Int))::(.pointer (some ⟨g1, 0, none⟩))::(.pointer (some ⟨r1, 0, none⟩))::(.pointer (some ⟨hp, s.sel, none⟩))::u57::u58::u59::u60::u61::u62::u63::u64::u65::u66::u67::u68::u69::u70::u71::u72::u73::u74::u75::u76::u77::u78::u79::u80::u81::u82::u83::u84::u85::u86::u87::u88::u89::u90::u91::u92::u93::u94::u95::u96::u97::u98::u99::u100::u101::u102::u103::u104::u105::u106::u107::u108::u109::u110::u111::u112::u113::u114::u115::u116::u117::u118::u119::u120::u121::u122::u123::u124::u125::u126::u127::u128::u129::u130::u131::u132::[]), []⟩) rfl (by kernel_rfl) rfl (by kernel_rfl) (fun _ => by kernel_rfl) fun K hK => ?_
          refine op_storep rfl rfl rfl ((H5.out.2.1.cell _).trans (pp_get g s.sel_lt)) (H5.out.2.1.free _) ?_
          refine hK _ _ trivial fun hHeld9 => ?_
          clear hK K hHeld
          have hHeld := hHeld9
          clear hHeld9
          refine HD.wa_take (i := 6) (d := some 57) (v := (.pointer (some ⟨hr, s.sel, none⟩))) rfl (by kernel_rfl) (by kernel_rfl) (by kernel_rfl) rfl (fun _ _ _ h => h) (Or.inl ⟨by kernel_rfl, fun w9 hw => y_ixpr rfl (by kernel_rfl) (by kernel_rfl) s.sel_lt⟩) hHeld rfl ?_
          refine HD.wa_norm (a' := ⟨List.toArray ((.slice (some ⟨b, o, none⟩) ss.length c)::u1::u2::(.pointer (some ⟨hp, 0, none⟩))::(.pointer (some ⟨hr, 0, none⟩))::u5::(.int .i64 (n : Int))::(.pointer (some ⟨h7, 0, none⟩))::(.int .i64 (s.sel : Int))::(.pointer (some ⟨g s.sel, 0, none⟩))::(.pointer (some ⟨r s.sel, 0, none⟩))::u11::u12::u13::u14::u15::u16::u17::u18::u19::u20::u21::(.int .i64 (n : Int))::(.slice (some ⟨b, o, none⟩) ss.length c)::(.int .i64 (ss.length : Int))::(.bool true)::u26::u27::(.slice (some ⟨b, o, none⟩) ss.length c)::(.int .i64 (n : Int))::(.pointer (some ⟨b, o + n * 45, none⟩))::(.agg s.L.toArray)::(.pointer (some ⟨h7, 1, none⟩))::(.int .i64 s.on)::(.int .i64 (s.sel : Int))::(.int .i64 (s.sel : Int))::(.pointer (some ⟨hp, s.sel, none⟩))::(.pointer (some ⟨g s.sel, 0, none⟩))::(.int .i64 (s.sel : Int))::(.pointer (some ⟨hr, s.sel, none⟩))::(.pointer (some ⟨r s.sel, 0, none⟩))::(.pointer (some ⟨h7, 2, none⟩))::(.bool false)::u43::(.pointer (some ⟨h7, 0, none⟩))::(.int .i64 s.kind)::(.bool true)::(.bool true)::(.pointer (some ⟨h7, 2, none⟩))::(.bool false)::(.bool true)::(.bool true)::(.int .i64 (s.sel : Int))::(.int .i64 (s.sel : Int))::(.pointer (some ⟨g1, 0, none⟩))::(.pointer (some ⟨r1, 0, none⟩))::(.pointer (some ⟨hp, s.sel, none⟩))::(.pointer (some ⟨hr, s.sel, none⟩))::u58::u59::u60::u61::u62::u63::u64::u65::u66::u67::u68::u69::u70::u71::u72::u73::u74::u75::u76::u77::u78::u79::u80::u81::u82::u83::u84::u85::u86::u87::u88::u89::u90::u91::u92::u93::u94::u95::u96::u97::u98::u99::u100::u101::u102::u103::u104::u105::u106::u107::u108::u109::u110::u111::u112::u113::u114::u115::u116::u117::u118::u119::u120::u121::u122::u123::u124::u125::u126::u127::u128::u129::u130::u131::u132::[]), []⟩) (by kernel_rfl) ?_
          refine HD.wa_callG (i := 7) (d := none) (fun v9 => ⟨List.toArray ((.slice (some ⟨b, o, none⟩) ss.length c)::u1::u2::(.pointer (some ⟨hp, 0, none⟩))::(.pointer (some ⟨hr, 0, none⟩))::u5::(.int .i64 (n : Int))::(.pointer (some ⟨h7, 0, none⟩))::(.int .i64 (s.sel : Int))::(.pointer (some ⟨g s.sel, 0, none⟩))::(.pointer (some ⟨r s.sel, 0, none⟩))::u11::u12::u13::u14::u15::u16::u17::u18::u19::u20::u21::(.int .i64 (n : Int))::(.slice (some ⟨b, o, none⟩) ss.length c)::(.int .i64 (ss.length : Int))::(.bool true)::u26::u27::(.slice (some ⟨b, o, none⟩) ss.length c)::(.int .i64 (n : Int))::(.pointer (some ⟨b, o + n * 45, none⟩))::(.agg s.L.toArray)::(.pointer (some ⟨h7, 1, none⟩))::(.int .i64 s.on)::(.int .i64 (s.sel : Int))::(.int .i64 (s.sel : Int))::(.pointer (some ⟨hp, s.sel, none⟩))::(.pointer (some ⟨g s.sel, 0, none⟩))::(.int .i64 (s.sel : Int))::(.pointer (some ⟨hr, s.sel, none⟩))::(.pointer (some ⟨r s.sel, 0, none⟩))::(.pointer (some ⟨h7, 2, none⟩))::(.bool false)::u43::(.pointer (some ⟨h7, 0, none⟩))::(.int .i64 s.kind)::(.bool true)::(.bool true)::(.pointer (some ⟨h7, 2, none⟩))::(.bool false)::(.bool true)::(.bool true)::(.int .i64 (s.sel : Int))::(.int .i64 (s.sel : Int))::(.pointer (some ⟨g1, 0, none⟩))::(.pointer (some ⟨r1, 0, none⟩))::(.pointer (some ⟨hp, s.sel, none⟩))::(.pointer (some ⟨hr, s.sel, none⟩))::u58::u59::u60::u61::u62::u63::u64::u65::u66::u67::u68::u69::u70::u71::u72::u73::u74::u75::u76::u77::u78::u79::u80::u81::u82::u83::u84::u85::u86::u87::u88::u89::u90::u91::u92::u93::u94::u95::u96::u97::u98::u99::u100::u101::u102::u103::u104::u105::u106::u107::u108::u109::u110::u111::u112::u113::u114::u115::u116::u117::u118::u119::u120::u121::u122::u123::u124::u125::u126::u127::u128::u129::u130::u131::u132::[]), []⟩) rfl (by kernel_rfl) rfl (by kernel_rfl) (fun _ => by kernel_rfl) fun K hK => ?_
          refine op_storer rfl rfl rfl (((H5.out.2.2.1.far (p := ⟨hp, s.sel, none⟩) (Ne.symm HE2.out.hw.2.2.2) _).cell _).trans (pp_get r s.sel_lt)) ((H5.out.2.2.1.far (p := ⟨hp, s.sel, none⟩) (Ne.symm HE2.out.hw.2.2.2) _).free _) ?_
          refine hK _ _ trivial fun hHeld9 => ?_
          clear hK K hHeld
          have hHeld := hHeld9
          clear hHeld9
          obtain ⟨O', g', r', v', l', hex⟩ : ∃ O' g' r' v' l', EX w hp hr B O' g' r' v' l' Z u5 ks n n ((w5.setCell ⟨hp, s.sel, none⟩ (.pointer (some ⟨g1, 0, none⟩))).setCell ⟨hr, s.sel, none⟩ (.pointer (some ⟨r1, 0, none⟩))) := ⟨_, _, _, _, _, H5.out.1⟩
          have h7b := (H5.out.2.2.2.far (p := ⟨hp, s.sel, none⟩) H2.out.2.2.1 (.pointer (some ⟨g1, 0, none⟩))).far (p := ⟨hr, s.sel, none⟩) H2.out.2.2.2.1 (.pointer (some ⟨r1, 0, none⟩))
          obtain ⟨w7, hw7⟩ : ∃ w7, w7 = ((w5.setCell ⟨hp, s.sel, none⟩ (.pointer (some ⟨g1, 0, none⟩))).setCell ⟨hr, s.sel, none⟩ (.pointer (some ⟨r1, 0, none⟩))) := ⟨_, rfl⟩
          rw [← hw7] at hex h7b ⊢
          have HE7 := Lib.hid hex
          have H7 := Lib.hid (And.intro h7b H2.out.2.2.2.2.1)
          clear hex h7b hw7
          refine HD.wa_norm (a' := ⟨List.toArray ((.slice (some ⟨b, o, none⟩) ss.length c)::u1::u2::(.pointer (some ⟨hp, 0, none⟩))::(.pointer (some ⟨hr, 0, none⟩))::u5::(.int .i64 (n : Int))::(.pointer (some ⟨h7, 0, none⟩))::(.int .i64 (s.sel : Int))::(.pointer (some ⟨g s.sel, 0, none⟩))::(.pointer (some ⟨r s.sel, 0, none⟩))::u11::u12::u13::u14::u15::u16::u17::u18::u19::u20::u21::(.int .i64 (n : Int))::(.slice (some ⟨b, o, none⟩) ss.length c)::(.int .i64 (ss.length : Int))::(.bool true)::u26::u27::(.slice (some ⟨b, o, none⟩) ss.length c)::(.int .i64 (n : Int))::(.pointer (some ⟨b, o + n * 45, none⟩))::(.agg s.L.toArray)::(.pointer (some ⟨h7, 1, none⟩))::(.int .i64 s.on)::(.int .i64 (s.sel : Int))::(.int .i64 (s.sel : Int))::(.pointer (some ⟨hp, s.sel, none⟩))::(.pointer (some ⟨g s.sel, 0, none⟩))::(.int .i64 (s.sel : Int))::(.pointer (some ⟨hr, s.sel, none⟩))::(.pointer (some ⟨r s.sel, 0, none⟩))::(.pointer (some ⟨h7, 2, none⟩))::(.bool false)::u43::(.pointer (some ⟨h7, 0, none⟩))::(.int .i64 s.kind)::(.bool true)::(.bool true)::(.pointer (some ⟨h7, 2, none⟩))::(.bool false)::(.bool true)::(.bool true)::(.int .i64 (s.sel : Int))::(.int .i64 (s.sel : Int))::(.pointer (some ⟨g1, 0, none⟩))::(.pointer (some ⟨r1, 0, none⟩))::(.pointer (some ⟨hp, s.sel, none⟩))::(.pointer (some ⟨hr, s.sel, none⟩))::u58::u59::u60::u61::u62::u63::u64::u65::u66::u67::u68::u69::u70::u71::u72::u73::u74::u75::u76::u77::u78::u79::u80::u81::u82::u83::u84::u85::u86::u87::u88::u89::u90::u91::u92::u93::u94::u95::u96::u97::u98::u99::u100::u101::u102::u103::u104::u105::u106::u107::u108::u109::u110::u111::u112::u113::u114::u115::u116::u117::u118::u119::u120::u121::u122::u123::u124::u125::u126::u127::u128::u129::u130::u131::u132::[]), []⟩) (by kernel_rfl) ?_
          refine HD.wa_done (by kernel_rfl) ?_
          go_upto_region 16 with fail
          refine wp_region_held_drew (S := fun w9 => Blk w9 hp 67 (pp g') ∧ Blk w9 hr 70 (pp r')) (by kernel_rfl) ⟨HE7.out.bp.drew, HE7.out.br.drew⟩ (fun hHeld => HD.WA.out ?_)
          refine HD.wa_take (i := 0) (d := some 58) (v := (.int .i64 (s.sel : Int))) rfl (by kernel_rfl) (by kernel_rfl) (by kernel_rfl) rfl (fun _ _ _ h => h) (Or.inl ⟨by kernel_rfl, fun w9 hw => y_move rfl (by kernel_rfl)⟩) hHeld rfl ?_
          refine HD.wa_take (i := 1) (d := some 59) (v := (.pointer (some ⟨hp, s.sel, none⟩))) rfl (by kernel_rfl) (by kernel_rfl) (by kernel_rfl) rfl (fun _ _ _ h => h) (Or.inl ⟨by kernel_rfl, fun w9 hw => y_ixpp rfl (by kernel_rfl) (by kernel_rfl) s.sel_lt⟩) hHeld rfl ?_
          refine HD.wa_take (i := 2) (d := some 60) (v := (.pointer (some ⟨g' s.sel, 0, none⟩))) rfl (by kernel_rfl) (by kernel_rfl) (by kernel_rfl) rfl (fun _ _ _ h => h) (Or.inl ⟨by kernel_rfl, fun w9 hw => y_ldp rfl (by kernel_rfl) ((hw.1.cell _).trans (pp_get g' s.sel_lt)) (by kernel_rfl)⟩) hHeld rfl ?_
          refine HD.wa_take (i := 3) (d := some 61) (v := (.int .i64 (s.sel : Int))) rfl (by kernel_rfl) (by kernel_rfl) (by kernel_rfl) rfl (fun _ _ _ h => h) (Or.inl ⟨by kernel_rfl, fun w9 hw => y_move rfl (by kernel_rfl)⟩) hHeld rfl ?_
          refine HD.wa_take (i := 4) (d := some 62) (v := (.pointer (some ⟨hr, s.sel, none⟩))) rfl (by kernel_rfl) (by kernel_rfl) (by kernel_rfl) rfl (fun _ _ _ h => h) (Or.inl ⟨by kernel_rfl, fun w9 hw => y_ixpr rfl (by kernel_rfl) (by kernel_rfl) s.sel_lt⟩) hHeld rfl ?_
          refine HD.wa_take (i := 5) (d := some 63) (v := (.pointer (some ⟨r' s.sel, 0, none⟩))) rfl (by kernel_rfl) (by kernel_rfl) (by kernel_rfl) rfl (fun _ _ _ h => h) (Or.inl ⟨by kernel_rfl, fun w9 hw => y_ldr rfl (by kernel_rfl) ((hw.2.cell _).trans (pp_get r' s.sel_lt)) (by kernel_rfl)⟩) hHeld rfl ?_
          refine HD.wa_take (i := 6) (d := some 9) (v := (.pointer (some ⟨g' s.sel, 0, none⟩))) rfl (by kernel_rfl) (by kernel_rfl) (by kernel_rfl) rfl (fun _ _ _ h => h) (Or.inl ⟨by kernel_rfl, fun w9 hw => y_assign rfl (by kernel_rfl)⟩) hHeld rfl ?_
          refine HD.wa_take (i := 7) (d := some 10) (v := (.pointer (some ⟨r' s.sel, 0, none⟩))) rfl (by kernel_rfl) (by kernel_rfl) (by kernel_rfl) rfl (fun _ _ _ h => h) (Or.inl ⟨by kernel_rfl, fun w9 hw => y_assign rfl (by kernel_rfl)⟩) hHeld rfl ?_
          refine HD.wa_norm (a' := ⟨List.toArray ((.slice (some ⟨b, o, none⟩) ss.length c)::u1::u2::(.pointer (some ⟨hp, 0, none⟩))::(.pointer (some ⟨hr, 0, none⟩))::u5::(.int .i64 (n : Int))::(.pointer (some ⟨h7, 0, none⟩))::(.int .i64 (s.sel : Int))::(.pointer (some ⟨g' s.sel, 0, none⟩))::(.pointer (some ⟨r' s.sel, 0, none⟩))::u11::u12::u13::u14::u15::u16::u17::u18::u19::u20::u21::(.int .i64 (n : Int))::(.slice (some ⟨b, o, none⟩) ss.length c)::(.int .i64 (ss.length : Int))::(.bool true)::u26::u27::(.slice (some ⟨b, o, none⟩) ss.length c)::(.int .i64 (n : Int))::(.pointer (some ⟨b, o + n * 45, none⟩))::(.agg s.L.toArray)::(.pointer (some ⟨h7, 1, none⟩))::(.int .i64 s.on)::(.int .i64 (s.sel : Int))::(.int .i64 (s.sel : Int))::(.pointer (some ⟨hp, s.sel, none⟩))::(.pointer (some ⟨g s.sel, 0, none⟩))::(.int .i64 (s.sel : Int))::(.pointer (some ⟨hr, s.sel, none⟩))::(.pointer (some ⟨r s.sel, 0, none⟩))::(.pointer (some ⟨h7, 2, none⟩))::(.bool false)::u43::(.pointer (some ⟨h7, 0, none⟩))::(.int .i64 s.kind)::(.bool true)::(.bool true)::(.pointer (some ⟨h7, 2, none⟩))::(.bool false)::(.bool true)::(.bool true)::(.int .i64 (s.sel : Int))::(.int .i64 (s.sel : Int))::(.pointer (some ⟨g1, 0, none⟩))::(.pointer (some ⟨r1, 0, none⟩))::(.pointer (some ⟨hp, s.sel, none⟩))::(.pointer (some ⟨hr, s.sel, none⟩))::(.int .i64 (s.sel : Int))::(.pointer (some ⟨hp, s.sel, none⟩))::(.pointer (some ⟨g' s.sel, 0, none⟩))::(.int .i64 (s.sel : Int))::(.pointer (some ⟨hr, s.sel, none⟩))::(.pointer (some ⟨r' s.sel, 0, none⟩))::u64::u65::u66::u67::u68::u69::u70::u71::u72::u73::u74::u75::u76::u77::u78::u79::u80::u81::u82::u83::u84::u85::u86::u87::u88::u89::u90::u91::u92::u93::u94::u95::u96::u97::u98::u99::u100::u101::u102::u103::u104::u105::u106::u107::u108::u109::u110::u111::u112::u113::u114::u115::u116::u117::u118::u119::u120::u121::u122::u123::u124::u125::u126::u127::u128::u129::u130::u131::u132::[]), []⟩) (by kernel_rfl) ?_
          refine HD.wa_done (by kernel_rfl) ?_
          go_wp2_with fail
          refine HK17.out _ _ (tail_any (HE7.out.mod0 (Mod.refl no _).drew) (.inl ⟨s.sel, s.sel_lt, rfl, rfl, rfl, rfl, HN.out⟩) H7.out.1.drew H7.out.2 HI.out.2.2 HI.out.2.2 (fun d u c a w h => by cases d <;> exact h) ?_)
          intro O9 v9 l9 Z9 kv9 ks9 x64 x65 x66 x67 x68 x69 x70 x71 x72 x73 x74 x75 x76 x77 x78 x79 x80 x81 x82 x83 x84 x85 x86 x87 x88 W9 hE9
          have H9 := Lib.hid hE9
          clear hE9
          go_upto_region 8 with fail
          refine HD.wl_begin ?_
          refine HD.wl_takeF (d := some 26) (v := (.int .i64 (n : Int))) (by kernel_rfl) rfl rfl (y_move rfl (by kernel_rfl)) ?_
          refine HD.wl_takeF (d := some 27) (v := (.int .i64 ((n : Int) + 1))) (by kernel_rfl) rfl rfl (y_addi (by have := HI.out.2.2; omega) rfl (by kernel_rfl) (by kernel_rfl)) ?_
          refine HD.wl_takeF (d := some 6) (v := (.int .i64 ((n : Int) + 1))) (by kernel_rfl) rfl rfl (y_assign rfl (by kernel_rfl)) ?_
          refine HD.wl_norm (a' := ⟨List.toArray ((.slice (some ⟨b, o, none⟩) ss.length c)::u1::u2::(.pointer (some ⟨hp, 0, none⟩))::(.pointer (some ⟨hr, 0, none⟩))::(kv9)::(.int .i64 ((n : Int) + 1))::(.pointer (some ⟨h7, 0, none⟩))::(.int .i64 (s.sel : Int))::(.pointer (some ⟨g' s.sel, 0, none⟩))::(.pointer (some ⟨r' s.sel, 0, none⟩))::u11::u12::u13::u14::u15::u16::u17::u18::u19::u20::u21::(.int .i64 (n : Int))::(.slice (some ⟨b, o, none⟩) ss.length c)::(.int .i64 (ss.length : Int))::(.bool true)::(.int .i64 (n : Int))::(.int .i64 ((n : Int) + 1))::(.slice (some ⟨b, o, none⟩) ss.length c)::(.int .i64 (n : Int))::(.pointer (some ⟨b, o + n * 45, none⟩))::(.agg s.L.toArray)::(.pointer (some ⟨h7, 1, none⟩))::(.int .i64 s.on)::(.int .i64 (s.sel : Int))::(.int .i64 (s.sel : Int))::(.pointer (some ⟨hp, s.sel, none⟩))::(.pointer (some ⟨g s.sel, 0, none⟩))::(.int .i64 (s.sel : Int))::(.pointer (some ⟨hr, s.sel, none⟩))::(.pointer (some ⟨r s.sel, 0, none⟩))::(.pointer (some ⟨h7, 2, none⟩))::(.bool false)::u43::(.pointer (some ⟨h7, 0, none⟩))::(.int .i64 s.kind)::(.bool true)::(.bool true)::(.pointer (some ⟨h7, 2, none⟩))::(.bool false)::(.bool true)::(.bool true)::(.int .i64 (s.sel : Int))::(.int .i64 (s.sel : Int))::(.pointer (some ⟨g1, 0, none⟩))::(.pointer (some ⟨r1, 0, none⟩))::(.pointer (some ⟨hp, s.sel, none⟩))::(.pointer (some ⟨hr, s.sel, none⟩))::(.int .i64 (s.sel : Int))::(.pointer (some ⟨hp, s.sel, none⟩))::(.pointer (some ⟨g' s.sel, 0, none⟩))::(.int .i64 (s.sel : Int))::(.pointer (some ⟨hr, s.sel, none⟩))::(.pointer (some ⟨r' s.sel, 0, none⟩))::(x64)::(x65)::(x66)::(x67)::(x68)::(x69)::(x70)::(x71)::(x72)::(x73)::(x74)::(x75)::(x76)::(x77)::(x78)::(x79)::(x80)::(x81)::(x82)::(x83)::(x84)::(x85)::(x86)::(x87)::(x88)::u89::u90::u91::u92::u93::u94::u95::u96::u97::u98::u99::u100::u101::u102::u103::u104::u105::u106::u107::u108::u109::u110::u111::u112::u113::u114::u115::u116::u117::u118::u119::u120::u121::u122::u123::u124::u125::u126::u127::u128::u129::u130::u131::u132::[]), []⟩) (by kernel_rfl) ?_
          refine HD.wl_done ?_
          exact ⟨⟨_, _, _, _, _, _, _, _, _, _, _, _, _, _, _, _, _, _, _, _, _, _, _, _, _, _, _, _, _, _, _, _, _, _, _, _, _, _, _, _, _, _, _, _, _, _, _, _, _, _, _, _, _, _, _, _, _, _, _, _, _, _, _, _, _, _, _, _, _, _, _, _, _, _, ⟨O9, g', r', v9, l9, Z9, ks9, n + 1, HI.out.1, rfl, H9.out⟩, rfl⟩, HM.out⟩
        · have d1 : decide (s.kind = 1) = false := decide_eq_false hk
          go_upto_region 14 with fail
          rename (∀ (a : Act) (w : World), Code.wp _ (Code.seq (Code.seq (Code.region 17 _ _) _) _) _ a w → _) => hK17
          have HK17 := Lib.hid hK17
          clear hK17
          refine HD.wl_begin ?_
          refine HD.wl_takeF (d := some 44) (v := (.pointer (some ⟨h7, 0, none⟩))) (by kernel_rfl) rfl rfl (y_fst (k := 0) (by decide) rfl (by kernel_rfl)) ?_
          refine HD.wl_takeF (d := some 45) (v := (.int .i64 s.kind)) (by kernel_rfl) rfl rfl (y_int rfl (by kernel_rfl) (stAt (blk_range H2.out.1.drew)).kind) ?_
          refine HD.wl_takeF (d := some 46) (v := (.bool false)) (by kernel_rfl) rfl rfl (y_eqi (n := 1) d1 rfl (by kernel_rfl) (by kernel_rfl)) ?_
          refine HD.wl_takeF (d := some 47) (v := (.bool false)) (by kernel_rfl) rfl rfl (y_move rfl (by kernel_rfl)) ?_
          refine HD.wl_skipF (d := some 48) (by kernel_rfl) rfl rfl ?_
          refine HD.wl_skipF (d := some 49) (by kernel_rfl) rfl rfl ?_
          refine HD.wl_skipF (d := some 50) (by kernel_rfl) rfl rfl ?_
          refine HD.wl_takeF (d := some 51) (v := (.bool false)) (by kernel_rfl) rfl rfl (y_pick (b := false) rfl (by kernel_rfl) (by kernel_rfl)) ?_
          refine HD.wl_norm (a' := ⟨List.toArray ((.slice (some ⟨b, o, none⟩) ss.length c)::u1::u2::(.pointer (some ⟨hp, 0, none⟩))::(.pointer (some ⟨hr, 0, none⟩))::u5::(.int .i64 (n : Int))::(.pointer (some ⟨h7, 0, none⟩))::(.int .i64 (s.sel : Int))::(.pointer (some ⟨g s.sel, 0, none⟩))::(.pointer (some ⟨r s.sel, 0, none⟩))::u11::u12::u13::u14::u15::u16::u17::u18::u19::u20::u21::(.int .i64 (n : Int))::(.slice (some ⟨b, o, none⟩) ss.length c)::(.int .i64 (ss.length : Int))::(.bool true)::u26::u27::(.slice (some ⟨b, o, none⟩) ss.length c)::(.int .i64 (n : Int))::(.pointer (some ⟨b, o + n * 45, none⟩))::(.agg s.L.toArray)::(.pointer (some ⟨h7, 1, none⟩))::(.int .i64 s.on)::(.int .i64 (s.sel : Int))::(.int .i64 (s.sel : Int))::(.pointer (some ⟨hp, s.sel, none⟩))::(.pointer (some ⟨g s.sel, 0, none⟩))::(.int .i64 (s.sel : Int))::(.pointer (some ⟨hr, s.sel, none⟩))::(.pointer (some ⟨r s.sel, 0, none⟩))::(.pointer (some ⟨h7, 2, none⟩))::(.bool false)::u43::(.pointer (some ⟨h7, 0, none⟩))::(.int .i64 s.kind)::(.bool false)::(.bool false)::(undef)::(undef)::(undef)::(.bool false)::u52::u53::u54::u55::u56::u57::u58::u59::u60::u61::u62::u63::u64::u65::u66::u67::u68::u69::u70::u71::u72::u73::u74::u75::u76::u77::u78::u79::u80::u81::u82::u83::u84::u85::u86::u87::u88::u89::u90::u91::u92::u93::u94::u95::u96::u97::u98::u99::u100::u101::u102::u103::u104::u105::u106::u107::u108::u109::u110::u111::u112::u113::u114::u115::u116::u117::u118::u119::u120::u121::u122::u123::u124::u125::u126::u127::u128::u129::u130::u131::u132::[]), []⟩) (by kernel_rfl) ?_
          refine HD.wl_done ?_
          go_wp2_with fail
          refine HK17.out _ _ (tail_any (HE2.out.mod0 (Mod.refl no _).drew) (.inl ⟨s.sel, s.sel_lt, rfl, rfl, rfl, rfl, HN.out⟩) H2.out.1.drew H2.out.2.2.2.2.1 HI.out.2.2 HI.out.2.2 (fun d u c a w h => by cases d <;> exact h) ?_)
          intro O9 v9 l9 Z9 kv9 ks9 x64 x65 x66 x67 x68 x69 x70 x71 x72 x73 x74 x75 x76 x77 x78 x79 x80 x81 x82 x83 x84 x85 x86 x87 x88 W9 hE9
          have H9 := Lib.hid hE9
          clear hE9
          go_upto_region 8 with fail
          refine HD.wl_begin ?_
          refine HD.wl_takeF (d := some 26) (v := (.int .i64 (n : Int))) (by kernel_rfl) rfl rfl (y_move rfl (by kernel_rfl)) ?_
          refine HD.wl_takeF (d := some 27) (v := (.int .i64 ((n : Int) + 1))) (by kernel_rfl) rfl rfl (y_addi (by have := HI.out.2.2; omega) rfl (by kernel_rfl) (by kernel_rfl)) ?_
          refine HD.wl_takeF (d := some 6) (v := (.int .i64 ((n : Int) + 1))) (by kernel_rfl) rfl rfl (y_assign rfl (by kernel_rfl)) ?_
          refine HD.wl_norm (a' := ⟨List.toArray ((.slice (some ⟨b, o, none⟩) ss.length c)::u1::u2::(.pointer (some ⟨hp, 0, none⟩))::(.pointer (some ⟨hr, 0, none⟩))::(kv9)::(.int .i64 ((n : Int) + 1))::(.pointer (some ⟨h7, 0, none⟩))::(.int .i64 (s.sel : Int))::(.pointer (some ⟨g s.sel, 0, none⟩))::(.pointer (some ⟨r s.sel, 0, none⟩))::u11::u12::u13::u14::u15::u16::u17::u18::u19::u20::u21::(.int .i64 (n : Int))::(.slice (some ⟨b, o, none⟩) ss.length c)::(.int .i64 (ss.length : Int))::(.bool true)::(.int .i64 (n : Int))::(.int .i64 ((n : Int) + 1))::(.slice (some ⟨b, o, none⟩) ss.length c)::(.int .i64 (n : Int))::(.pointer (some ⟨b, o + n * 45, none⟩))::(.agg s.L.toArray)::(.pointer (some ⟨h7, 1, none⟩))::(.int .i64 s.on)::(.int .i64 (s.sel : Int))::(.int .i64 (s.sel : Int))::(.pointer (some ⟨hp, s.sel, none⟩))::(.pointer (some ⟨g s.sel, 0, none⟩))::(.int .i64 (s.sel : Int))::(.pointer (some ⟨hr, s.sel, none⟩))::(.pointer (some ⟨r s.sel, 0, none⟩))::(.pointer (some ⟨h7, 2, none⟩))::(.bool false)::u43::(.pointer (some ⟨h7, 0, none⟩))::(.int .i64 s.kind)::(.bool false)::(.bool false)::(undef)::(undef)::(undef)::(.bool false)::u52::u53::u54::u55::u56::u57::u58::u59::u60::u61::u62::u63::(x64)::(x65)::(x66)::(x67)::(x68)::(x69)::(x70)::(x71)::(x72)::(x73)::(x74)::(x75)::(x76)::(x77)::(x78)::(x79)::(x80)::(x81)::(x82)::(x83)::(x84)::(x85)::(x86)::(x87)::(x88)::u89::u90::u91::u92::u93::u94::u95::u96::u97::u98::u99::u100::u101::u102::u103::u104::u105::u106::u107::u108::u109::u110::u111::u112::u113::u114::u115::u116::u117::u118::u119::u120::u121::u122::u123::u124::u125::u126::u127::u128::u129::u130::u131::u132::[]), []⟩) (by kernel_rfl) ?_
          refine HD.wl_done ?_
          exact ⟨⟨_, _, _, _, _, _, _, _, _, _, _, _, _, _, _, _, _, _, _, _, _, _, _, _, _, _, _, _, _, _, _, _, _, _, _, _, _, _, _, _, _, _, _, _, _, _, _, _, _, _, _, _, _, _, _, _, _, _, _, _, _, _, _, _, _, _, _, _, _, _, _, _, _, _, ⟨O9, g, r, v9, l9, Z9, ks9, n + 1, HI.out.1, rfl, H9.out⟩, rfl⟩, HM.out⟩
    · obtain rfl : n = ss.length := by omega
      have d1 : decide ((ss.length : Int) < (ss.length : Int)) = false := decide_eq_false (by omega)
      clear hlt hn
      go_upto_region 7 with fail
      refine HD.wl_begin ?_
      refine HD.wl_takeF (d := some 22) (v := (.int .i64 (ss.length : Int))) (by kernel_rfl) rfl rfl (y_move rfl (by kernel_rfl)) ?_
      refine HD.wl_takeF (d := some 23) (v := (.slice A ss.length c)) (by kernel_rfl) rfl rfl (y_move rfl (by kernel_rfl)) ?_
      refine HD.wl_takeF (d := some 24) (v := (.int .i64 (ss.length : Int))) (by kernel_rfl) rfl rfl (y_lenst (A := A) (c := c) rfl (by kernel_rfl)) ?_
      refine HD.wl_takeF (d := some 25) (v := (.bool false)) (by kernel_rfl) rfl rfl (y_lssi d1 rfl (by kernel_rfl) (by kernel_rfl)) ?_
      refine HD.wl_norm (a' := ⟨List.toArray ((.slice A ss.length c)::u1::u2::(.pointer (some ⟨hp, 0, none⟩))::(.pointer (some ⟨hr, 0, none⟩))::u5::(.int .i64 (ss.length : Int))::u7::u8::u9::u10::u11::u12::u13::u14::u15::u16::u17::u18::u19::u20::u21::(.int .i64 (ss.length : Int))::(.slice A ss.length c)::(.int .i64 (ss.length : Int))::(.bool false)::u26::u27::u28::u29::u30::u31::u32::u33::u34::u35::u36::u37::u38::u39::u40::u41::u42::u43::u44::u45::u46::u47::u48::u49::u50::u51::u52::u53::u54::u55::u56::u57::u58::u59::u60::u61::u62::u63::u64::u65::u66::u67::u68::u69::u70::u71::u72::u73::u74::u75::u76::u77::u78::u79::u80::u81::u82::u83::u84::u85::u86::u87::u88::u89::u90::u91::u92::u93::u94::u95::u96::u97::u98::u99::u100::u101::u102::u103::u104::u105::u106::u107::u108::u109::u110::u111::u112::u113::u114::u115::u116::u117::u118::u119::u120::u121::u122::u123::u124::u125::u126::u127::u128::u129::u130::u131::u132::[]), []⟩) (by kernel_rfl) ?_
      refine HD.wl_done ?_
      go_wp2_with fail
      refine HK.out _ _ (end2_any HE.out HA.out.2 HA.out.2)
end Go.Proofs.Ytknbehjhaaidoaa.IX

