/- IndexExact: the texts ExI of this seat, one behind the other. -/
import Derived.Test.YtknbehjhaaidoaaM29
/- IndexExact: the code behind the first loop. -/
namespace Go.Proofs.Ytknbehjhaaidoaa.HD
open Go.RowKit Mem
theorem wa_pair {a : Act} {w : World} {ops : Array Oper} {Q : Exit → Act → World → Prop} {di dj : Option Tmp} {md : Region.Mode} {S : World → Prop} (A1 A2 : Value → Act) {i j : Nat} {oi oj : Oper} {fuel : Nat} {listed : Array Bool} (hi : ops[i]? = some oi) (hj : ops[j]? = some oj) (hr : Region.ready md ops listed = [i, j]) (hdi : oi.dst = di) (hdj : oj.dst = dj) (hwi : Region.wanted oi (yielded ops a.tmps) = true) (hwj : Region.wanted oj (yielded ops a.tmps) = true) (ha1 : ∀ v, a.put di v = A1 v) (ha2 : ∀ v, a.put dj v = A2 v)
    (h1 : ∀ K : Act → World → Prop, (∀ (v : Value) (w' : World), S w' → (S w' → WA md ops Q S fuel (listed.setIfInBounds i true) (A1 v) w') → K (a.put oi.dst v) w') → Oper.wp Try.prog oi a w K Q)
    (h2 : ∀ K : Act → World → Prop, (∀ (v : Value) (w' : World), S w' → (S w' → WA md ops Q S fuel (listed.setIfInBounds j true) (A2 v) w') → K (a.put oj.dst v) w') → Oper.wp Try.prog oj a w K Q) : WA md ops Q S (fuel + 1) listed a w :=
  ⟨wpAnyH_ready hr (by simp) (aOne hi hdi hwi (fun K hK => h1 K fun v w' s1 s2 => hK v w' s1 fun s => by rw [ha1 v]; exact (s2 s).out) (aOne hj hdj hwj (fun K hK => h2 K fun v w' s1 s2 => hK v w' s1 fun s => by rw [ha2 v]; exact (s2 s).out) AllReadyH.nil))⟩
end Go.Proofs.Ytknbehjhaaidoaa.HD
namespace Go.Proofs.Ytknbehjhaaidoaa.IX
open Go.RowKit Go.Shelf Mem HD TB
set_option linter.unusedVariables false
set_option linter.unusedSimpArgs false
theorem pp_get (g : Nat → Nat) {i : Nat} (hi : i < 2) : (pp g)[i]? = some (.pointer (some ⟨g i, 0, none⟩)) := by
  rcases i with _ | _ | i
  · rfl
  · rfl
  · omega
theorem fresh_kp (w : World) (k : Kp) : Mod no w ((w.alloc (.cells #[.nilFunc, .slice none 0 0] 81)).setCells w.heap.size 0 (kpL k)) ∧ Blk ((w.alloc (.cells #[.nilFunc, .slice none 0 0] 81)).setCells w.heap.size 0 (kpL k)) w.heap.size 81 (kpL k).toArray :=
  ⟨mod_setCells (fun c => absurd c (Nat.lt_irrefl _)) _ _ _ ((Mod.refl no w).alloc _), blk_sets w.heap.size (kpL k) 0 [.nilFunc, .slice none 0 0] _ (Blk.new w 81 #[.nilFunc, .slice none 0 0]) (Nat.le_refl 2)⟩
set_option maxRecDepth 100000 in
set_option maxHeartbeats 20000000 in
theorem end3_any {w W : World} {hp hr B : Nat} {O : Nat → Nat → Prop} {g r : Nat → Nat} {v : Nat → Value} {l : Nat → List (Key × Ent)} {Z : Nat → Prop} {kv : Value} {ks : List Kp} {n m : Nat} {u0 u1 u2 u5 u6 u7 u8 u9 u10 u11 u12 u13 u14 u15 u16 u17 u18 u19 u20 u21 u22 u23 u24 u25 u26 u27 u28 u29 u30 u31 u32 u33 u34 u35 u36 u37 u38 u39 u40 u41 u42 u43 u44 u45 u46 u47 u48 u49 u50 u51 u52 u53 u54 u55 u56 u57 u58 u59 u60 u61 u62 u63 u64 u65 u66 u67 u68 u69 u70 u71 u72 u73 u74 u75 u76 u77 u78 u79 u80 u81 u82 u83 u84 u85 u86 u87 u88 u89 u90 u91 u92 u93 u94 u95 u96 u97 u98 u99 u100 u101 u102 u103 u104 u105 u106 u107 u108 u109 u110 u111 u112 u113 u114 u115 u116 u117 u118 u119 u120 u121 u122 u123 u124 u125 u126 u127 u128 u129 u130 u131 u132 : Value}
    (hE : EX w hp hr B O g r v l Z kv ks n m W) (hn : n ≤ 1048576) :
    Code.wp Try.prog ex26 (bodyPost Try.prog Try.f6 fun e w' => e = .returned (.bool true) ∧ Mod no w w') ⟨List.toArray (u0::u1::u2::(.pointer (some ⟨hp, 0, none⟩))::(.pointer (some ⟨hr, 0, none⟩))::u5::u6::u7::u8::u9::u10::u11::u12::u13::u14::u15::u16::u17::u18::u19::u20::u21::u22::u23::u24::u25::u26::u27::u28::u29::u30::u31::u32::u33::u34::u35::u36::u37::u38::u39::u40::u41::u42::u43::u44::u45::u46::u47::u48::u49::u50::u51::u52::u53::u54::u55::u56::u57::u58::u59::u60::u61::u62::u63::u64::u65::u66::u67::u68::u69::u70::u71::u72::u73::u74::u75::u76::u77::u78::u79::u80::u81::u82::u83::u84::u85::u86::u87::u88::u89::u90::u91::u92::u93::u94::u95::u96::u97::u98::u99::u100::u101::u102::u103::u104::u105::u106::u107::u108::u109::u110::u111::u112::u113::u114::u115::u116::u117::u118::u119::u120::u121::u122::u123::u124::u125::u126::u127::u128::u129::u130::u131::u132::[]), []⟩ W := by
  have HN := Lib.hid hn
  have HE := Lib.hid hE
  clear hE hn
  conv => arg 2; whnf
  go_wp2_with fail
  go_loopw [12] (fun v12 w' => ∃ (i : Nat), i ≤ 2 ∧ v12 = .int .i64 (i : Int) ∧ EX w hp hr B O g r v l Z kv ks n m w') (fun v _ => 2 - (intOf v).toNat)
  case atStart => exact ⟨0, Nat.zero_le _, rfl, HE.out⟩
  case round =>
    clear HE
    obtain ⟨i, hi, rfl, hE⟩ := hrel
    have HE := Lib.hid hE
    clear hE
    by_cases hlt : i < 2
    · have d1 : decide ((i : Int) < 2) = true := decide_eq_true (by omega)
      have HM := Lib.hid (show 2 - ((i : Int) + 1).toNat < 2 - ((i : Int)).toNat by omega)
      have HI := Lib.hid hlt
      obtain ⟨A, c, hvi, hrd⟩ := (HE.out.sd i hlt).rr.2
      have HB := Lib.hid (show Blk wr (r i) 79 #[.slice A (l i).length c] from by rw [← hvi]; exact (HE.out.sd i hlt).rr.1)
      have HV := Lib.hid hvi
      clear hlt hi hvi hrd
      go_upto_region 27 with fail
      refine HD.wl_begin ?_
      refine HD.wl_takeF (d := some 101) (v := (.int .i64 (i : Int))) (by kernel_rfl) rfl rfl (y_move rfl (by kernel_rfl)) ?_
      refine HD.wl_takeF (d := some 102) (v := (.bool true)) (by kernel_rfl) rfl rfl (y_lssi (n := 2) d1 rfl (by kernel_rfl) (by kernel_rfl)) ?_
      refine HD.wl_norm (a' := ⟨List.toArray (u0::u1::u2::(.pointer (some ⟨hp, 0, none⟩))::(.pointer (some ⟨hr, 0, none⟩))::u5::u6::u7::u8::u9::u10::u11::(.int .i64 (i : Int))::u13::u14::u15::u16::u17::u18::u19::u20::u21::u22::u23::u24::u25::u26::u27::u28::u29::u30::u31::u32::u33::u34::u35::u36::u37::u38::u39::u40::u41::u42::u43::u44::u45::u46::u47::u48::u49::u50::u51::u52::u53::u54::u55::u56::u57::u58::u59::u60::u61::u62::u63::u64::u65::u66::u67::u68::u69::u70::u71::u72::u73::u74::u75::u76::u77::u78::u79::u80::u81::u82::u83::u84::u85::u86::u87::u88::u89::u90::u91::u92::u93::u94::u95::u96::u97::u98::u99::u100::(.int .i64 (i : Int))::(.bool true)::u103::u104::u105::u106::u107::u108::u109::u110::u111::u112::u113::u114::u115::u116::u117::u118::u119::u120::u121::u122::u123::u124::u125::u126::u127::u128::u129::u130::u131::u132::[]), []⟩) (by kernel_rfl) ?_
      refine HD.wl_done ?_
      go_upto_region 29 with fail
      refine wp_region_held_drew (S := fun w9 => Blk w9 hp 67 (pp g) ∧ Blk w9 hr 70 (pp r) ∧ Blk w9 (r i) 79 #[.slice A (l i).length c]) (by kernel_rfl) ⟨HE.out.bp.drew, HE.out.br.drew, HB.out.drew⟩ (fun hHeld => HD.WA.out ?_)
      refine HD.wa_take (i := 0) (d := some 105) (v := (.int .i64 (i : Int))) rfl (by kernel_rfl) (by kernel_rfl) (by kernel_rfl) rfl (fun _ _ _ h => h) (Or.inl ⟨by kernel_rfl, fun w9 hw => y_move rfl (by kernel_rfl)⟩) hHeld rfl ?_
      refine HD.wa_take (i := 1) (d := some 106) (v := (.pointer (some ⟨hp, i, none⟩))) rfl (by kernel_rfl) (by kernel_rfl) (by kernel_rfl) rfl (fun _ _ _ h => h) (Or.inl ⟨by kernel_rfl, fun w9 hw => y_ixpp rfl (by kernel_rfl) (by kernel_rfl) HI.out⟩) hHeld rfl ?_
      refine HD.wa_take (i := 2) (d := some 107) (v := (.pointer (some ⟨g i, 0, none⟩))) rfl (by kernel_rfl) (by kernel_rfl) (by kernel_rfl) rfl (fun _ _ _ h => h) (Or.inl ⟨by kernel_rfl, fun w9 hw => y_ldp rfl (by kernel_rfl) ((hw.1.cell i).trans (pp_get g HI.out)) (by kernel_rfl)⟩) hHeld rfl ?_
      refine HD.wa_take (i := 4) (d := some 109) (v := (.int .i64 (i : Int))) rfl (by kernel_rfl) (by kernel_rfl) (by kernel_rfl) rfl (fun _ _ _ h => h) (Or.inl ⟨by kernel_rfl, fun w9 hw => y_move rfl (by kernel_rfl)⟩) hHeld rfl ?_
      refine HD.wa_take (i := 5) (d := some 110) (v := (.pointer (some ⟨hr, i, none⟩))) rfl (by kernel_rfl) (by kernel_rfl) (by kernel_rfl) rfl (fun _ _ _ h => h) (Or.inl ⟨by kernel_rfl, fun w9 hw => y_ixpr rfl (by kernel_rfl) (by kernel_rfl) HI.out⟩) hHeld rfl ?_
      refine HD.wa_take (i := 6) (d := some 111) (v := (.pointer (some ⟨r i, 0, none⟩))) rfl (by kernel_rfl) (by kernel_rfl) (by kernel_rfl) rfl (fun _ _ _ h => h) (Or.inl ⟨by kernel_rfl, fun w9 hw => y_ldr rfl (by kernel_rfl) ((hw.2.1.cell i).trans (pp_get r HI.out)) (by kernel_rfl)⟩) hHeld rfl ?_
      refine HD.wa_take (i := 7) (d := some 112) (v := (.pointer (some ⟨r i, 0, none⟩))) rfl (by kernel_rfl) (by kernel_rfl) (by kernel_rfl) rfl (fun _ _ _ h => h) (Or.inl ⟨by kernel_rfl, fun w9 hw => y_nil rfl (by kernel_rfl)⟩) hHeld rfl ?_
      refine HD.wa_take (i := 8) (d := some 113) (v := (.pointer (some ⟨r i, 0, none⟩))) rfl (by kernel_rfl) (by kernel_rfl) (by kernel_rfl) rfl (fun _ _ _ h => h) (Or.inl ⟨by kernel_rfl, fun w9 hw => y_fri rfl (by kernel_rfl)⟩) hHeld rfl ?_
      refine HD.wa_take (i := 9) (d := some 114) (v := (.slice A (l i).length c)) rfl (by kernel_rfl) (by kernel_rfl) (by kernel_rfl) rfl (fun _ _ _ h => h) (Or.inl ⟨by kernel_rfl, fun w9 hw => y_ldkv rfl (by kernel_rfl) (hw.2.2.cell 0)⟩) hHeld rfl ?_
      refine HD.wa_pair _ _ (i := 3) (j := 11) (di := some 108) (dj := some 13) rfl rfl (by kernel_rfl) rfl rfl (by kernel_rfl) (by kernel_rfl) (fun _ => rfl) (fun _ => rfl) (fun K hK => ?_) (fun K hK => ?_)
      · refine op_c1 (fun _ _ => rfl) rfl (by kernel_rfl) (((HE.out.sd i HI.out).qs (by have := HE.out.ln i HI.out; have := HN.out; omega)).all _ (Mod.refl no wr).drew) ?_
        rintro e w3 ⟨hL, u, rfl, hge, hbL, hrow, hm3⟩
        have md3 : Mod no wr w3 := ((Mod.refl no wr).drew).and_then hm3
        have hka : KvAt w3 (.slice A (l i).length c) (l i) := by rw [← HV.out]; exact (HE.out.sd i HI.out).rr.2.mod md3 (fun _ _ c => c)
        have hkp : KpAt w3 (⟨hL, u, A, c, l i⟩ : Kp) := ⟨hbL, hrow, hka, by have := HE.out.ln i HI.out; have := HN.out; show (l i).length ≤ _; omega⟩
        have H3 := Lib.hid (And.intro (HE.out.mod0 md3) (And.intro hkp (HB.out.mod md3 (fun c => c))))
        clear hge hbL hrow md3 hkp hka
        refine ⟨_, rfl, hK _ _ ⟨hHeld.1.mod hm3 (fun c => c), hHeld.2.1.mod hm3 (fun c => c), hHeld.2.2.mod hm3 (fun c => c)⟩ fun hHeld9 => ?_⟩
        clear hK K hHeld
        have hHeld := hHeld9
        clear hHeld9
        clear hm3
        refine HD.wa_take (i := 10) (d := some 115) (v := (.agg (kpL (⟨hL, u, A, c, l i⟩ : Kp)).toArray)) rfl (by kernel_rfl) (by kernel_rfl) (by kernel_rfl) rfl (fun _ _ _ h => h) (Or.inl ⟨by kernel_rfl, fun w9 hw => y_kept rfl (by kernel_rfl) (by kernel_rfl)⟩) hHeld rfl ?_
        obtain ⟨h13, hh13⟩ : ∃ h13, h13 = w3.heap.size := ⟨_, rfl⟩
        refine HD.wa_callG _ (i := 11) (d := some 13) rfl (by kernel_rfl) rfl (by kernel_rfl) (fun _ => rfl) fun K hK => ?_
        refine op_yield (by exact y_allocKP rfl) ?_
        rw [← hh13]
        refine hK _ _ ⟨hHeld.1.alloc _, hHeld.2.1.alloc _, hHeld.2.2.alloc _⟩ fun hHeld9 => ?_
        clear hK K hHeld
        have hHeld := hHeld9
        clear hHeld9
        refine HD.wa_norm (a' := ⟨List.toArray (u0::u1::u2::(.pointer (some ⟨hp, 0, none⟩))::(.pointer (some ⟨hr, 0, none⟩))::u5::u6::u7::u8::u9::u10::u11::(.int .i64 (i : Int))::(.pointer (some ⟨h13, 0, none⟩))::u14::u15::u16::u17::u18::u19::u20::u21::u22::u23::u24::u25::u26::u27::u28::u29::u30::u31::u32::u33::u34::u35::u36::u37::u38::u39::u40::u41::u42::u43::u44::u45::u46::u47::u48::u49::u50::u51::u52::u53::u54::u55::u56::u57::u58::u59::u60::u61::u62::u63::u64::u65::u66::u67::u68::u69::u70::u71::u72::u73::u74::u75::u76::u77::u78::u79::u80::u81::u82::u83::u84::u85::u86::u87::u88::u89::u90::u91::u92::u93::u94::u95::u96::u97::u98::u99::u100::(.int .i64 (i : Int))::(.bool true)::u103::u104::(.int .i64 (i : Int))::(.pointer (some ⟨hp, i, none⟩))::(.pointer (some ⟨g i, 0, none⟩))::(.func (.func 62) #[] #[.pointer (some ⟨hL, 0, none⟩)])::(.int .i64 (i : Int))::(.pointer (some ⟨hr, i, none⟩))::(.pointer (some ⟨r i, 0, none⟩))::(.pointer (some ⟨r i, 0, none⟩))::(.pointer (some ⟨r i, 0, none⟩))::(.slice A (l i).length c)::(.agg (kpL (⟨hL, u, A, c, l i⟩ : Kp)).toArray)::u116::u117::u118::u119::u120::u121::u122::u123::u124::u125::u126::u127::u128::u129::u130::u131::u132::[]), []⟩) (by kernel_rfl) ?_
        refine HD.wa_callG (i := 12) (d := none) (fun v9 => ⟨List.toArray (u0::u1::u2::(.pointer (some ⟨hp, 0, none⟩))::(.pointer (some ⟨hr, 0, none⟩))::u5::u6::u7::u8::u9::u10::u11::(.int .i64 (i : Int))::(.pointer (some ⟨h13, 0, none⟩))::u14::u15::u16::u17::u18::u19::u20::u21::u22::u23::u24::u25::u26::u27::u28::u29::u30::u31::u32::u33::u34::u35::u36::u37::u38::u39::u40::u41::u42::u43::u44::u45::u46::u47::u48::u49::u50::u51::u52::u53::u54::u55::u56::u57::u58::u59::u60::u61::u62::u63::u64::u65::u66::u67::u68::u69::u70::u71::u72::u73::u74::u75::u76::u77::u78::u79::u80::u81::u82::u83::u84::u85::u86::u87::u88::u89::u90::u91::u92::u93::u94::u95::u96::u97::u98::u99::u100::(.int .i64 (i : Int))::(.bool true)::u103::u104::(.int .i64 (i : Int))::(.pointer (some ⟨hp, i, none⟩))::(.pointer (some ⟨g i, 0, none⟩))::(.func (.func 62) #[] #[.pointer (some ⟨hL, 0, none⟩)])::(.int .i64 (i : Int))::(.pointer (some ⟨hr, i, none⟩))::(.pointer (some ⟨r i, 0, none⟩))::(.pointer (some ⟨r i, 0, none⟩))::(.pointer (some ⟨r i, 0, none⟩))::(.slice A (l i).length c)::(.agg (kpL (⟨hL, u, A, c, l i⟩ : Kp)).toArray)::u116::u117::u118::u119::u120::u121::u122::u123::u124::u125::u126::u127::u128::u129::u130::u131::u132::[]), []⟩) rfl (by kernel_rfl) rfl (by kernel_rfl) (fun _ => by kernel_rfl) fun K hK => ?_
        refine wp_store_mid 81 (.tmp 13) (.tmp 115) rfl h13 0 (kpL (⟨hL, u, A, c, l i⟩ : Kp)).toArray (by kernel_rfl) (by kernel_rfl) (blk_there (show Blk (w3.alloc (.cells #[.nilFunc, .slice none 0 0] 81)) h13 81 #[.nilFunc, .slice none 0 0] from by rw [hh13]; exact Blk.new _ _ _) 0 2 (by decide)) (kept_sizeG _) (all_oneCell_toArray (kpL_ones _)) ?_
        have hF := fresh_kp w3 (⟨hL, u, A, c, l i⟩ : Kp)
        rw [← hh13] at hF
        change K _ ((w3.alloc (.cells #[.nilFunc, .slice none 0 0] 81)).setCells h13 0 (kpL (⟨hL, u, A, c, l i⟩ : Kp)))
        obtain ⟨w5, hw5⟩ : ∃ w5, w5 = (w3.alloc (.cells #[.nilFunc, .slice none 0 0] 81)).setCells h13 0 (kpL (⟨hL, u, A, c, l i⟩ : Kp)) := ⟨_, rfl⟩
        rw [← hw5] at hF ⊢
        have hb5 := H3.out.2.2.mod hF.1 (fun c => c)
        have he5 := H3.out.1.mod0 hF.1
        have H5 := Lib.hid (And.intro he5 (And.intro (H3.out.2.1.mod hF.1 (fun c => c) (fun _ _ c => c) (fun _ _ c => c)) (And.intro hb5 hF.2)))
        refine hK _ _ ⟨he5.bp, he5.br, hb5⟩ fun hHeld9 => ?_
        clear hK K hHeld
        have hHeld := hHeld9
        clear hHeld9
        clear hF hw5 hh13 hb5 he5
        refine HD.wa_norm (a' := ⟨List.toArray (u0::u1::u2::(.pointer (some ⟨hp, 0, none⟩))::(.pointer (some ⟨hr, 0, none⟩))::u5::u6::u7::u8::u9::u10::u11::(.int .i64 (i : Int))::(.pointer (some ⟨h13, 0, none⟩))::u14::u15::u16::u17::u18::u19::u20::u21::u22::u23::u24::u25::u26::u27::u28::u29::u30::u31::u32::u33::u34::u35::u36::u37::u38::u39::u40::u41::u42::u43::u44::u45::u46::u47::u48::u49::u50::u51::u52::u53::u54::u55::u56::u57::u58::u59::u60::u61::u62::u63::u64::u65::u66::u67::u68::u69::u70::u71::u72::u73::u74::u75::u76::u77::u78::u79::u80::u81::u82::u83::u84::u85::u86::u87::u88::u89::u90::u91::u92::u93::u94::u95::u96::u97::u98::u99::u100::(.int .i64 (i : Int))::(.bool true)::u103::u104::(.int .i64 (i : Int))::(.pointer (some ⟨hp, i, none⟩))::(.pointer (some ⟨g i, 0, none⟩))::(.func (.func 62) #[] #[.pointer (some ⟨hL, 0, none⟩)])::(.int .i64 (i : Int))::(.pointer (some ⟨hr, i, none⟩))::(.pointer (some ⟨r i, 0, none⟩))::(.pointer (some ⟨r i, 0, none⟩))::(.pointer (some ⟨r i, 0, none⟩))::(.slice A (l i).length c)::(.agg (kpL (⟨hL, u, A, c, l i⟩ : Kp)).toArray)::u116::u117::u118::u119::u120::u121::u122::u123::u124::u125::u126::u127::u128::u129::u130::u131::u132::[]), []⟩) (by kernel_rfl) ?_
        refine HD.wa_done (by kernel_rfl) ?_
        go_upto_region 30 with fail
        refine wp_region_held_drew (S := fun w9 => Blk w9 hp 67 (pp g) ∧ Blk w9 hr 70 (pp r) ∧ Blk w9 (r i) 79 #[.slice A (l i).length c] ∧ w9.rangeAt h13 0 (kpL (⟨hL, u, A, c, l i⟩ : Kp))) (by kernel_rfl) ⟨H5.out.1.bp.drew, H5.out.1.br.drew, H5.out.2.2.1.drew, blk_range H5.out.2.2.2.drew⟩ (fun hHeld => HD.WA.out ?_)
        refine HD.wa_take (i := 0) (d := some 116) (v := (.agg (kpL (⟨hL, u, A, c, l i⟩ : Kp)).toArray)) rfl (by kernel_rfl) (by kernel_rfl) (by kernel_rfl) rfl (fun _ _ _ h => h) (Or.inl ⟨by kernel_rfl, fun w9 hw => y_ldkp rfl (by kernel_rfl) hw.2.2.2⟩) hHeld rfl ?_
        refine HD.wa_callG _ (i := 1) (d := some 117) rfl (by kernel_rfl) rfl (by kernel_rfl) (fun _ => rfl) fun K hK => ?_
        refine op_c1 (fun _ _ => rfl) rfl (by kernel_rfl) (tells_any (H5.out.2.1.b.drew) (H5.out.2.1.r.mod (Mod.refl no w5).drew (fun _ _ c => c)) (H5.out.2.1.w.mod (Mod.refl no w5).drew (fun _ _ c => c)) (fun b hb => by have h9 := (H5.out.1.zo b (H5.out.1.zv i HI.out b (by rw [HV.out]; exact hb))).2.2.2.2; exact h9) (by have := H5.out.2.1.len; show (l i).length ≤ _; have h9 : (l i).length ≤ 1048576 := this; omega)) ?_
        rintro e w6 ⟨rfl, hm6⟩
        have H6 := Lib.hid (H5.out.1.mod0 ((Mod.refl no w5).drew.and_then hm6))
        refine ⟨_, rfl, hK _ _ ⟨hHeld.1.mod hm6 (fun c => c), hHeld.2.1.mod hm6 (fun c => c), hHeld.2.2.1.mod hm6 (fun c => c), range_mod hHeld.2.2.2 hm6 (fun c => c)⟩ fun hHeld9 => ?_⟩
        clear hK K hHeld
        have hHeld := hHeld9
        clear hHeld9
        clear hm6
        refine HD.wa_take (i := 2) (d := some 118) (v := (.bool false)) rfl (by kernel_rfl) (by kernel_rfl) (by kernel_rfl) rfl (fun _ _ _ h => h) (Or.inl ⟨by kernel_rfl, fun w9 hw => y_not (b := true) rfl (by kernel_rfl)⟩) hHeld rfl ?_
        refine HD.wa_take (i := 3) (d := some 119) (v := (.bool false)) rfl (by kernel_rfl) (by kernel_rfl) (by kernel_rfl) rfl (fun _ _ _ h => h) (Or.inl ⟨by kernel_rfl, fun w9 hw => y_move rfl (by kernel_rfl)⟩) hHeld rfl ?_
        refine HD.wa_take (i := 4) (d := some 120) (v := (.int .i64 (i : Int))) rfl (by kernel_rfl) (by kernel_rfl) (by kernel_rfl) rfl (fun _ _ _ h => h) (Or.inl ⟨by kernel_rfl, fun w9 hw => y_move rfl (by kernel_rfl)⟩) hHeld rfl ?_
        refine HD.wa_take (i := 5) (d := some 121) (v := (.pointer (some ⟨hp, i, none⟩))) rfl (by kernel_rfl) (by kernel_rfl) (by kernel_rfl) rfl (fun _ _ _ h => h) (Or.inl ⟨by kernel_rfl, fun w9 hw => y_ixpp rfl (by kernel_rfl) (by kernel_rfl) HI.out⟩) hHeld rfl ?_
        refine HD.wa_take (i := 6) (d := some 122) (v := (.pointer (some ⟨g i, 0, none⟩))) rfl (by kernel_rfl) (by kernel_rfl) (by kernel_rfl) rfl (fun _ _ _ h => h) (Or.inl ⟨by kernel_rfl, fun w9 hw => y_ldp rfl (by kernel_rfl) ((hw.1.cell i).trans (pp_get g HI.out)) (by kernel_rfl)⟩) hHeld rfl ?_
        refine HD.wa_take (i := 8) (d := some 124) (v := (.int .i64 (i : Int))) rfl (by kernel_rfl) (by kernel_rfl) (by kernel_rfl) rfl (fun _ _ _ h => h) (Or.inl ⟨by kernel_rfl, fun w9 hw => y_move rfl (by kernel_rfl)⟩) hHeld rfl ?_
        refine HD.wa_take (i := 9) (d := some 125) (v := (.pointer (some ⟨hr, i, none⟩))) rfl (by kernel_rfl) (by kernel_rfl) (by kernel_rfl) rfl (fun _ _ _ h => h) (Or.inl ⟨by kernel_rfl, fun w9 hw => y_ixpr rfl (by kernel_rfl) (by kernel_rfl) HI.out⟩) hHeld rfl ?_
        refine HD.wa_take (i := 10) (d := some 126) (v := (.pointer (some ⟨r i, 0, none⟩))) rfl (by kernel_rfl) (by kernel_rfl) (by kernel_rfl) rfl (fun _ _ _ h => h) (Or.inl ⟨by kernel_rfl, fun w9 hw => y_ldr rfl (by kernel_rfl) ((hw.2.1.cell i).trans (pp_get r HI.out)) (by kernel_rfl)⟩) hHeld rfl ?_
        refine HD.wa_take (i := 11) (d := some 127) (v := (.pointer (some ⟨r i, 0, none⟩))) rfl (by kernel_rfl) (by kernel_rfl) (by kernel_rfl) rfl (fun _ _ _ h => h) (Or.inl ⟨by kernel_rfl, fun w9 hw => y_nil rfl (by kernel_rfl)⟩) hHeld rfl ?_
        refine HD.wa_take (i := 12) (d := some 128) (v := (.pointer (some ⟨r i, 0, none⟩))) rfl (by kernel_rfl) (by kernel_rfl) (by kernel_rfl) rfl (fun _ _ _ h => h) (Or.inl ⟨by kernel_rfl, fun w9 hw => y_fri rfl (by kernel_rfl)⟩) hHeld rfl ?_
        refine HD.wa_take (i := 13) (d := some 129) (v := (.slice A (l i).length c)) rfl (by kernel_rfl) (by kernel_rfl) (by kernel_rfl) rfl (fun _ _ _ h => h) (Or.inl ⟨by kernel_rfl, fun w9 hw => y_ldkv rfl (by kernel_rfl) (hw.2.2.1.cell 0)⟩) hHeld rfl ?_
        refine HD.wa_take (i := 14) (d := some 130) (v := (.int .i64 ((l i).length : Int))) rfl (by kernel_rfl) (by kernel_rfl) (by kernel_rfl) rfl (fun _ _ _ h => h) (Or.inl ⟨by kernel_rfl, fun w9 hw => y_lenkv (A := A) (c := c) rfl (by kernel_rfl)⟩) hHeld rfl ?_
        refine HD.wa_callG _ (i := 7) (d := some 123) rfl (by kernel_rfl) rfl (by kernel_rfl) (fun _ => rfl) fun K hK => ?_
        refine op_c1 (fun _ _ => rfl) rfl (by kernel_rfl) (((H6.out.sd i HI.out).qs (by have := HE.out.ln i HI.out; have := HN.out; omega)).len _ (Mod.refl no w6)) ?_
        rintro e w7 ⟨rfl, hm6⟩
        have H9 := Lib.hid (H6.out.mod0 hm6)
        refine ⟨_, rfl, hK _ _ ⟨hHeld.1.mod hm6 (fun c => c), hHeld.2.1.mod hm6 (fun c => c), hHeld.2.2.1.mod hm6 (fun c => c), range_mod hHeld.2.2.2 hm6 (fun c => c)⟩ fun hHeld9 => ?_⟩
        clear hK K hHeld
        have hHeld := hHeld9
        clear hHeld9
        clear hm6
        refine HD.wa_take (i := 15) (d := some 131) (v := (.bool false)) rfl (by kernel_rfl) (by kernel_rfl) (by kernel_rfl) rfl (fun _ _ _ h => h) (Or.inl ⟨by kernel_rfl, fun w9 hw => y_neqi (m := ((l i).length : Int)) (n := ((l i).length : Int)) (d := true) (decide_eq_true rfl) rfl (by kernel_rfl) (by kernel_rfl)⟩) hHeld rfl ?_
        refine HD.wa_take (i := 16) (d := some 132) (v := (.bool false)) rfl (by kernel_rfl) (by kernel_rfl) (by kernel_rfl) rfl (fun _ _ _ h => h) (Or.inl ⟨by kernel_rfl, fun w9 hw => y_pick (b := false) rfl (by kernel_rfl) (by kernel_rfl)⟩) hHeld rfl ?_
        refine HD.wa_norm (a' := ⟨List.toArray (u0::u1::u2::(.pointer (some ⟨hp, 0, none⟩))::(.pointer (some ⟨hr, 0, none⟩))::u5::u6::u7::u8::u9::u10::u11::(.int .i64 (i : Int))::(.pointer (some ⟨h13, 0, none⟩))::u14::u15::u16::u17::u18::u19::u20::u21::u22::u23::u24::u25::u26::u27::u28::u29::u30::u31::u32::u33::u34::u35::u36::u37::u38::u39::u40::u41::u42::u43::u44::u45::u46::u47::u48::u49::u50::u51::u52::u53::u54::u55::u56::u57::u58::u59::u60::u61::u62::u63::u64::u65::u66::u67::u68::u69::u70::u71::u72::u73::u74::u75::u76::u77::u78::u79::u80::u81::u82::u83::u84::u85::u86::u87::u88::u89::u90::u91::u92::u93::u94::u95::u96::u97::u98::u99::u100::(.int .i64 (i : Int))::(.bool true)::u103::u104::(.int .i64 (i : Int))::(.pointer (some ⟨hp, i, none⟩))::(.pointer (some ⟨g i, 0, none⟩))::(.func (.func 62) #[] #[.pointer (some ⟨hL, 0, none⟩)])::(.int .i64 (i : Int))::(.pointer (some ⟨hr, i, none⟩))::(.pointer (some ⟨r i, 0, none⟩))::(.pointer (some ⟨r i, 0, none⟩))::(.pointer (some ⟨r i, 0, none⟩))::(.slice A (l i).length c)::(.agg (kpL (⟨hL, u, A, c, l i⟩ : Kp)).toArray)::(.agg (kpL (⟨hL, u, A, c, l i⟩ : Kp)).toArray)::(.bool true)::(.bool false)::(.bool false)::(.int .i64 (i : Int))::(.pointer (some ⟨hp, i, none⟩))::(.pointer (some ⟨g i, 0, none⟩))::(.int .i64 ((l i).length : Int))::(.int .i64 (i : Int))::(.pointer (some ⟨hr, i, none⟩))::(.pointer (some ⟨r i, 0, none⟩))::(.pointer (some ⟨r i, 0, none⟩))::(.pointer (some ⟨r i, 0, none⟩))::(.slice A (l i).length c)::(.int .i64 ((l i).length : Int))::(.bool false)::(.bool false)::[]), []⟩) (by kernel_rfl) ?_
        refine HD.wa_done (by kernel_rfl) ?_
        go_upto_region 28 with fail
        refine HD.wl_begin ?_
        refine HD.wl_takeF (d := some 103) (v := (.int .i64 (i : Int))) (by kernel_rfl) rfl rfl (y_move rfl (by kernel_rfl)) ?_
        refine HD.wl_takeF (d := some 104) (v := (.int .i64 ((i : Int) + 1))) (by kernel_rfl) rfl rfl (y_addi (by have := HI.out; omega) rfl (by kernel_rfl) (by kernel_rfl)) ?_
        refine HD.wl_takeF (d := some 12) (v := (.int .i64 ((i : Int) + 1))) (by kernel_rfl) rfl rfl (y_assign rfl (by kernel_rfl)) ?_
        refine HD.wl_norm (a' := ⟨List.toArray (u0::u1::u2::(.pointer (some ⟨hp, 0, none⟩))::(.pointer (some ⟨hr, 0, none⟩))::u5::u6::u7::u8::u9::u10::u11::(.int .i64 ((i : Int) + 1))::(.pointer (some ⟨h13, 0, none⟩))::u14::u15::u16::u17::u18::u19::u20::u21::u22::u23::u24::u25::u26::u27::u28::u29::u30::u31::u32::u33::u34::u35::u36::u37::u38::u39::u40::u41::u42::u43::u44::u45::u46::u47::u48::u49::u50::u51::u52::u53::u54::u55::u56::u57::u58::u59::u60::u61::u62::u63::u64::u65::u66::u67::u68::u69::u70::u71::u72::u73::u74::u75::u76::u77::u78::u79::u80::u81::u82::u83::u84::u85::u86::u87::u88::u89::u90::u91::u92::u93::u94::u95::u96::u97::u98::u99::u100::(.int .i64 (i : Int))::(.bool true)::(.int .i64 (i : Int))::(.int .i64 ((i : Int) + 1))::(.int .i64 (i : Int))::(.pointer (some ⟨hp, i, none⟩))::(.pointer (some ⟨g i, 0, none⟩))::(.func (.func 62) #[] #[.pointer (some ⟨hL, 0, none⟩)])::(.int .i64 (i : Int))::(.pointer (some ⟨hr, i, none⟩))::(.pointer (some ⟨r i, 0, none⟩))::(.pointer (some ⟨r i, 0, none⟩))::(.pointer (some ⟨r i, 0, none⟩))::(.slice A (l i).length c)::(.agg (kpL (⟨hL, u, A, c, l i⟩ : Kp)).toArray)::(.agg (kpL (⟨hL, u, A, c, l i⟩ : Kp)).toArray)::(.bool true)::(.bool false)::(.bool false)::(.int .i64 (i : Int))::(.pointer (some ⟨hp, i, none⟩))::(.pointer (some ⟨g i, 0, none⟩))::(.int .i64 ((l i).length : Int))::(.int .i64 (i : Int))::(.pointer (some ⟨hr, i, none⟩))::(.pointer (some ⟨r i, 0, none⟩))::(.pointer (some ⟨r i, 0, none⟩))::(.pointer (some ⟨r i, 0, none⟩))::(.slice A (l i).length c)::(.int .i64 ((l i).length : Int))::(.bool false)::(.bool false)::[]), []⟩) (by kernel_rfl) ?_
        refine HD.wl_done ?_
        exact ⟨⟨_, _, _, _, _, _, _, _, _, _, _, _, _, _, _, _, _, _, _, _, _, _, _, _, _, _, _, _, _, _, _, _, _, _, _, ⟨i + 1, HI.out, rfl, H9.out⟩, rfl⟩, HM.out⟩
      · obtain ⟨h13, hh13⟩ : ∃ h13, h13 = wr.heap.size := ⟨_, rfl⟩
        refine op_yield (by exact y_allocKP rfl) ?_
        rw [show wr.drew.heap.size = h13 from hh13.symm]
        obtain ⟨w3, hw3⟩ : ∃ w3, w3 = wr.drew.alloc (.cells #[.nilFunc, .slice none 0 0] 81) := ⟨_, rfl⟩
        rw [← hw3]
        have hb3 : Blk w3 h13 81 #[.nilFunc, .slice none 0 0] := by rw [hw3]; exact Blk.new_at _ _ _ hh13
        have md3 : Mod no wr w3 := by rw [hw3]; exact ((Mod.refl no wr).drew).alloc _
        have hs3 : w3.heap.size = h13 + 1 := by rw [hw3, hh13]; simp
        refine hK _ _ ⟨HE.out.bp.mod md3 (fun c => c), HE.out.br.mod md3 (fun c => c), HB.out.mod md3 (fun c => c)⟩ fun hHeld9 => ?_
        clear hK K hHeld
        have hHeld := hHeld9
        clear hHeld9
        refine HD.wa_callG _ (i := 3) (d := some 108) rfl (by kernel_rfl) rfl (by kernel_rfl) (fun _ => rfl) fun K hK => ?_
        refine op_c1 (fun _ _ => rfl) rfl (by kernel_rfl) (((HE.out.sd i HI.out).qs (by have := HE.out.ln i HI.out; have := HN.out; omega)).all _ md3) ?_
        rintro e w4 ⟨hL, u, rfl, hge, hbL, hrow, hm4⟩
        have md4 : Mod no wr w4 := md3.and_then hm4
        have hka : KvAt w4 (.slice A (l i).length c) (l i) := by rw [← HV.out]; exact (HE.out.sd i HI.out).rr.2.mod md4 (fun _ _ c => c)
        have hkp : KpAt w4 (⟨hL, u, A, c, l i⟩ : Kp) := ⟨hbL, hrow, hka, by have := HE.out.ln i HI.out; have := HN.out; show (l i).length ≤ _; omega⟩
        have hvl : ∀ b, ((⟨hL, u, A, c, l i⟩ : Kp) : Kp).v.ownBlock = some b → b ≠ h13 := fun b hb => by have h9 := (HE.out.sd i HI.out).rr.2; have h8 := (HE.out.zo b (HE.out.zv i HI.out b (by rw [HV.out]; exact hb))).2.2.2.2; omega
        have hul : ∀ b, ((⟨hL, u, A, c, l i⟩ : Kp) : Kp).u.ownBlock = some b → b ≠ h13 := fun b hb => by have h9 := (hrow.own hb).1; omega
        have H4 := Lib.hid (And.intro md4 (And.intro hkp (And.intro (hb3.mod hm4 (fun c => c)) (And.intro (show hL ≠ h13 by omega) (And.intro hul hvl)))))
        clear hka hkp hvl hul
        refine ⟨_, rfl, hK _ _ ⟨hHeld.1.mod hm4 (fun c => c), hHeld.2.1.mod hm4 (fun c => c), hHeld.2.2.mod hm4 (fun c => c)⟩ fun hHeld9 => ?_⟩
        clear hK K hHeld
        have hHeld := hHeld9
        clear hHeld9
        clear hm4 md4 md3 hb3 hw3 hbL hrow
        refine HD.wa_take (i := 10) (d := some 115) (v := (.agg (kpL (⟨hL, u, A, c, l i⟩ : Kp)).toArray)) rfl (by kernel_rfl) (by kernel_rfl) (by kernel_rfl) rfl (fun _ _ _ h => h) (Or.inl ⟨by kernel_rfl, fun w9 hw => y_kept rfl (by kernel_rfl) (by kernel_rfl)⟩) hHeld rfl ?_
        refine HD.wa_norm (a' := ⟨List.toArray (u0::u1::u2::(.pointer (some ⟨hp, 0, none⟩))::(.pointer (some ⟨hr, 0, none⟩))::u5::u6::u7::u8::u9::u10::u11::(.int .i64 (i : Int))::(.pointer (some ⟨h13, 0, none⟩))::u14::u15::u16::u17::u18::u19::u20::u21::u22::u23::u24::u25::u26::u27::u28::u29::u30::u31::u32::u33::u34::u35::u36::u37::u38::u39::u40::u41::u42::u43::u44::u45::u46::u47::u48::u49::u50::u51::u52::u53::u54::u55::u56::u57::u58::u59::u60::u61::u62::u63::u64::u65::u66::u67::u68::u69::u70::u71::u72::u73::u74::u75::u76::u77::u78::u79::u80::u81::u82::u83::u84::u85::u86::u87::u88::u89::u90::u91::u92::u93::u94::u95::u96::u97::u98::u99::u100::(.int .i64 (i : Int))::(.bool true)::u103::u104::(.int .i64 (i : Int))::(.pointer (some ⟨hp, i, none⟩))::(.pointer (some ⟨g i, 0, none⟩))::(.func (.func 62) #[] #[.pointer (some ⟨hL, 0, none⟩)])::(.int .i64 (i : Int))::(.pointer (some ⟨hr, i, none⟩))::(.pointer (some ⟨r i, 0, none⟩))::(.pointer (some ⟨r i, 0, none⟩))::(.pointer (some ⟨r i, 0, none⟩))::(.slice A (l i).length c)::(.agg (kpL (⟨hL, u, A, c, l i⟩ : Kp)).toArray)::u116::u117::u118::u119::u120::u121::u122::u123::u124::u125::u126::u127::u128::u129::u130::u131::u132::[]), []⟩) (by kernel_rfl) ?_
        refine HD.wa_callG (i := 12) (d := none) (fun v9 => ⟨List.toArray (u0::u1::u2::(.pointer (some ⟨hp, 0, none⟩))::(.pointer (some ⟨hr, 0, none⟩))::u5::u6::u7::u8::u9::u10::u11::(.int .i64 (i : Int))::(.pointer (some ⟨h13, 0, none⟩))::u14::u15::u16::u17::u18::u19::u20::u21::u22::u23::u24::u25::u26::u27::u28::u29::u30::u31::u32::u33::u34::u35::u36::u37::u38::u39::u40::u41::u42::u43::u44::u45::u46::u47::u48::u49::u50::u51::u52::u53::u54::u55::u56::u57::u58::u59::u60::u61::u62::u63::u64::u65::u66::u67::u68::u69::u70::u71::u72::u73::u74::u75::u76::u77::u78::u79::u80::u81::u82::u83::u84::u85::u86::u87::u88::u89::u90::u91::u92::u93::u94::u95::u96::u97::u98::u99::u100::(.int .i64 (i : Int))::(.bool true)::u103::u104::(.int .i64 (i : Int))::(.pointer (some ⟨hp, i, none⟩))::(.pointer (some ⟨g i, 0, none⟩))::(.func (.func 62) #[] #[.pointer (some ⟨hL, 0, none⟩)])::(.int .i64 (i : Int))::(.pointer (some ⟨hr, i, none⟩))::(.pointer (some ⟨r i, 0, none⟩))::(.pointer (some ⟨r i, 0, none⟩))::(.pointer (some ⟨r i, 0, none⟩))::(.slice A (l i).length c)::(.agg (kpL (⟨hL, u, A, c, l i⟩ : Kp)).toArray)::u116::u117::u118::u119::u120::u121::u122::u123::u124::u125::u126::u127::u128::u129::u130::u131::u132::[]), []⟩) rfl (by kernel_rfl) rfl (by kernel_rfl) (fun _ => by kernel_rfl) fun K hK => ?_
        refine wp_store_mid 81 (.tmp 13) (.tmp 115) rfl h13 0 (kpL (⟨hL, u, A, c, l i⟩ : Kp)).toArray (by kernel_rfl) (by kernel_rfl) (blk_there H4.out.2.2.1 0 2 (by decide)) (kept_sizeG _) (all_oneCell_toArray (kpL_ones _)) ?_
        have mdF : Mod no wr (w4.setCells h13 0 (kpL (⟨hL, u, A, c, l i⟩ : Kp))) := mod_setCells (fun c => by omega) _ _ _ H4.out.1
        have mdG : Mod (Mem.one h13) w4 (w4.setCells h13 0 (kpL (⟨hL, u, A, c, l i⟩ : Kp))) := mod_setCells (S := Mem.one h13) (fun _ => rfl) _ _ _ (Mod.refl _ _)
        have hbF : Blk (w4.setCells h13 0 (kpL (⟨hL, u, A, c, l i⟩ : Kp))) h13 81 (kpL (⟨hL, u, A, c, l i⟩ : Kp)).toArray := blk_sets h13 (kpL (⟨hL, u, A, c, l i⟩ : Kp)) 0 [.nilFunc, .slice none 0 0] _ H4.out.2.2.1 (Nat.le_refl 2)
        change K _ (w4.setCells h13 0 (kpL (⟨hL, u, A, c, l i⟩ : Kp)))
        obtain ⟨w5, hw5⟩ : ∃ w5, w5 = w4.setCells h13 0 (kpL (⟨hL, u, A, c, l i⟩ : Kp)) := ⟨_, rfl⟩
        rw [← hw5] at mdF mdG hbF ⊢
        have hb5 := HB.out.mod mdF (fun c => c)
        have he5 := HE.out.mod0 mdF
        have H5 := Lib.hid (And.intro he5 (And.intro (H4.out.2.1.mod mdG H4.out.2.2.2.1 H4.out.2.2.2.2.1 H4.out.2.2.2.2.2) (And.intro hb5 hbF)))
        refine hK _ _ ⟨he5.bp, he5.br, hb5⟩ fun hHeld9 => ?_
        clear hK K hHeld
        have hHeld := hHeld9
        clear hHeld9
        clear mdF mdG hbF hw5 hh13 hb5 he5 hs3 hge
        refine HD.wa_norm (a' := ⟨List.toArray (u0::u1::u2::(.pointer (some ⟨hp, 0, none⟩))::(.pointer (some ⟨hr, 0, none⟩))::u5::u6::u7::u8::u9::u10::u11::(.int .i64 (i : Int))::(.pointer (some ⟨h13, 0, none⟩))::u14::u15::u16::u17::u18::u19::u20::u21::u22::u23::u24::u25::u26::u27::u28::u29::u30::u31::u32::u33::u34::u35::u36::u37::u38::u39::u40::u41::u42::u43::u44::u45::u46::u47::u48::u49::u50::u51::u52::u53::u54::u55::u56::u57::u58::u59::u60::u61::u62::u63::u64::u65::u66::u67::u68::u69::u70::u71::u72::u73::u74::u75::u76::u77::u78::u79::u80::u81::u82::u83::u84::u85::u86::u87::u88::u89::u90::u91::u92::u93::u94::u95::u96::u97::u98::u99::u100::(.int .i64 (i : Int))::(.bool true)::u103::u104::(.int .i64 (i : Int))::(.pointer (some ⟨hp, i, none⟩))::(.pointer (some ⟨g i, 0, none⟩))::(.func (.func 62) #[] #[.pointer (some ⟨hL, 0, none⟩)])::(.int .i64 (i : Int))::(.pointer (some ⟨hr, i, none⟩))::(.pointer (some ⟨r i, 0, none⟩))::(.pointer (some ⟨r i, 0, none⟩))::(.pointer (some ⟨r i, 0, none⟩))::(.slice A (l i).length c)::(.agg (kpL (⟨hL, u, A, c, l i⟩ : Kp)).toArray)::u116::u117::u118::u119::u120::u121::u122::u123::u124::u125::u126::u127::u128::u129::u130::u131::u132::[]), []⟩) (by kernel_rfl) ?_
        refine HD.wa_done (by kernel_rfl) ?_
        go_upto_region 30 with fail
        refine wp_region_held_drew (S := fun w9 => Blk w9 hp 67 (pp g) ∧ Blk w9 hr 70 (pp r) ∧ Blk w9 (r i) 79 #[.slice A (l i).length c] ∧ w9.rangeAt h13 0 (kpL (⟨hL, u, A, c, l i⟩ : Kp))) (by kernel_rfl) ⟨H5.out.1.bp.drew, H5.out.1.br.drew, H5.out.2.2.1.drew, blk_range H5.out.2.2.2.drew⟩ (fun hHeld => HD.WA.out ?_)
        refine HD.wa_take (i := 0) (d := some 116) (v := (.agg (kpL (⟨hL, u, A, c, l i⟩ : Kp)).toArray)) rfl (by kernel_rfl) (by kernel_rfl) (by kernel_rfl) rfl (fun _ _ _ h => h) (Or.inl ⟨by kernel_rfl, fun w9 hw => y_ldkp rfl (by kernel_rfl) hw.2.2.2⟩) hHeld rfl ?_
        refine HD.wa_callG _ (i := 1) (d := some 117) rfl (by kernel_rfl) rfl (by kernel_rfl) (fun _ => rfl) fun K hK => ?_
        refine op_c1 (fun _ _ => rfl) rfl (by kernel_rfl) (tells_any (H5.out.2.1.b.drew) (H5.out.2.1.r.mod (Mod.refl no w5).drew (fun _ _ c => c)) (H5.out.2.1.w.mod (Mod.refl no w5).drew (fun _ _ c => c)) (fun b hb => by have h9 := (H5.out.1.zo b (H5.out.1.zv i HI.out b (by rw [HV.out]; exact hb))).2.2.2.2; exact h9) (by have := H5.out.2.1.len; show (l i).length ≤ _; have h9 : (l i).length ≤ 1048576 := this; omega)) ?_
        rintro e w6 ⟨rfl, hm6⟩
        have H6 := Lib.hid (H5.out.1.mod0 ((Mod.refl no w5).drew.and_then hm6))
        refine ⟨_, rfl, hK _ _ ⟨hHeld.1.mod hm6 (fun c => c), hHeld.2.1.mod hm6 (fun c => c), hHeld.2.2.1.mod hm6 (fun c => c), range_mod hHeld.2.2.2 hm6 (fun c => c)⟩ fun hHeld9 => ?_⟩
        clear hK K hHeld
        have hHeld := hHeld9
        clear hHeld9
        clear hm6
        refine HD.wa_take (i := 2) (d := some 118) (v := (.bool false)) rfl (by kernel_rfl) (by kernel_rfl) (by kernel_rfl) rfl (fun _ _ _ h => h) (Or.inl ⟨by kernel_rfl, fun w9 hw => y_not (b := true) rfl (by kernel_rfl)⟩) hHeld rfl ?_
        refine HD.wa_take (i := 3) (d := some 119) (v := (.bool false)) rfl (by kernel_rfl) (by kernel_rfl) (by kernel_rfl) rfl (fun _ _ _ h => h) (Or.inl ⟨by kernel_rfl, fun w9 hw => y_move rfl (by kernel_rfl)⟩) hHeld rfl ?_
        refine HD.wa_take (i := 4) (d := some 120) (v := (.int .i64 (i : Int))) rfl (by kernel_rfl) (by kernel_rfl) (by kernel_rfl) rfl (fun _ _ _ h => h) (Or.inl ⟨by kernel_rfl, fun w9 hw => y_move rfl (by kernel_rfl)⟩) hHeld rfl ?_
        refine HD.wa_take (i := 5) (d := some 121) (v := (.pointer (some ⟨hp, i, none⟩))) rfl (by kernel_rfl) (by kernel_rfl) (by kernel_rfl) rfl (fun _ _ _ h => h) (Or.inl ⟨by kernel_rfl, fun w9 hw => y_ixpp rfl (by kernel_rfl) (by kernel_rfl) HI.out⟩) hHeld rfl ?_
        refine HD.wa_take (i := 6) (d := some 122) (v := (.pointer (some ⟨g i, 0, none⟩))) rfl (by kernel_rfl) (by kernel_rfl) (by kernel_rfl) rfl (fun _ _ _ h => h) (Or.inl ⟨by kernel_rfl, fun w9 hw => y_ldp rfl (by kernel_rfl) ((hw.1.cell i).trans (pp_get g HI.out)) (by kernel_rfl)⟩) hHeld rfl ?_
        refine HD.wa_take (i := 8) (d := some 124) (v := (.int .i64 (i : Int))) rfl (by kernel_rfl) (by kernel_rfl) (by kernel_rfl) rfl (fun _ _ _ h => h) (Or.inl ⟨by kernel_rfl, fun w9 hw => y_move rfl (by kernel_rfl)⟩) hHeld rfl ?_
        refine HD.wa_take (i := 9) (d := some 125) (v := (.pointer (some ⟨hr, i, none⟩))) rfl (by kernel_rfl) (by kernel_rfl) (by kernel_rfl) rfl (fun _ _ _ h => h) (Or.inl ⟨by kernel_rfl, fun w9 hw => y_ixpr rfl (by kernel_rfl) (by kernel_rfl) HI.out⟩) hHeld rfl ?_
        refine HD.wa_take (i := 10) (d := some 126) (v := (.pointer (some ⟨r i, 0, none⟩))) rfl (by kernel_rfl) (by kernel_rfl) (by kernel_rfl) rfl (fun _ _ _ h => h) (Or.inl ⟨by kernel_rfl, fun w9 hw => y_ldr rfl (by kernel_rfl) ((hw.2.1.cell i).trans (pp_get r HI.out)) (by kernel_rfl)⟩) hHeld rfl ?_
        refine HD.wa_take (i := 11) (d := some 127) (v := (.pointer (some ⟨r i, 0, none⟩))) rfl (by kernel_rfl) (by kernel_rfl) (by kernel_rfl) rfl (fun _ _ _ h => h) (Or.inl ⟨by kernel_rfl, fun w9 hw => y_nil rfl (by kernel_rfl)⟩) hHeld rfl ?_
        refine HD.wa_take (i := 12) (d := some 128) (v := (.pointer (some ⟨r i, 0, none⟩))) rfl (by kernel_rfl) (by kernel_rfl) (by kernel_rfl) rfl (fun _ _ _ h => h) (Or.inl ⟨by kernel_rfl, fun w9 hw => y_fri rfl (by kernel_rfl)⟩) hHeld rfl ?_
        refine HD.wa_take (i := 13) (d := some 129) (v := (.slice A (l i).length c)) rfl (by kernel_rfl) (by kernel_rfl) (by kernel_rfl) rfl (fun _ _ _ h => h) (Or.inl ⟨by kernel_rfl, fun w9 hw => y_ldkv rfl (by kernel_rfl) (hw.2.2.1.cell 0)⟩) hHeld rfl ?_
        refine HD.wa_take (i := 14) (d := some 130) (v := (.int .i64 ((l i).length : Int))) rfl (by kernel_rfl) (by kernel_rfl) (by kernel_rfl) rfl (fun _ _ _ h => h) (Or.inl ⟨by kernel_rfl, fun w9 hw => y_lenkv (A := A) (c := c) rfl (by kernel_rfl)⟩) hHeld rfl ?_
        refine HD.wa_callG _ (i := 7) (d := some 123) rfl (by kernel_rfl) rfl (by kernel_rfl) (fun _ => rfl) fun K hK => ?_
        refine op_c1 (fun _ _ => rfl) rfl (by kernel_rfl) (((H6.out.sd i HI.out).qs (by have := HE.out.ln i HI.out; have := HN.out; omega)).len _ (Mod.refl no w6)) ?_
        rintro e w7 ⟨rfl, hm6⟩
        have H9 := Lib.hid (H6.out.mod0 hm6)
        refine ⟨_, rfl, hK _ _ ⟨hHeld.1.mod hm6 (fun c => c), hHeld.2.1.mod hm6 (fun c => c), hHeld.2.2.1.mod hm6 (fun c => c), range_mod hHeld.2.2.2 hm6 (fun c => c)⟩ fun hHeld9 => ?_⟩
        clear hK K hHeld
        have hHeld := hHeld9
        clear hHeld9
        clear hm6
        refine HD.wa_take (i := 15) (d := some 131) (v := (.bool false)) rfl (by kernel_rfl) (by kernel_rfl) (by kernel_rfl) rfl (fun _ _ _ h => h) (Or.inl ⟨by kernel_rfl, fun w9 hw => y_neqi (m := ((l i).length : Int)) (n := ((l i).length : Int)) (d := true) (decide_eq_true rfl) rfl (by kernel_rfl) (by kernel_rfl)⟩) hHeld rfl ?_
        refine HD.wa_take (i := 16) (d := some 132) (v := (.bool false)) rfl (by kernel_rfl) (by kernel_rfl) (by kernel_rfl) rfl (fun _ _ _ h => h) (Or.inl ⟨by kernel_rfl, fun w9 hw => y_pick (b := false) rfl (by kernel_rfl) (by kernel_rfl)⟩) hHeld rfl ?_
        refine HD.wa_norm (a' := ⟨List.toArray (u0::u1::u2::(.pointer (some ⟨hp, 0, none⟩))::(.pointer (some ⟨hr, 0, none⟩))::u5::u6::u7::u8::u9::u10::u11::(.int .i64 (i : Int))::(.pointer (some ⟨h13, 0, none⟩))::u14::u15::u16::u17::u18::u19::u20::u21::u22::u23::u24::u25::u26::u27::u28::u29::u30::u31::u32::u33::u34::u35::u36::u37::u38::u39::u40::u41::u42::u43::u44::u45::u46::u47::u48::u49::u50::u51::u52::u53::u54::u55::u56::u57::u58::u59::u60::u61::u62::u63::u64::u65::u66::u67::u68::u69::u70::u71::u72::u73::u74::u75::u76::u77::u78::u79::u80::u81::u82::u83::u84::u85::u86::u87::u88::u89::u90::u91::u92::u93::u94::u95::u96::u97::u98::u99::u100::(.int .i64 (i : Int))::(.bool true)::u103::u104::(.int .i64 (i : Int))::(.pointer (some ⟨hp, i, none⟩))::(.pointer (some ⟨g i, 0, none⟩))::(.func (.func 62) #[] #[.pointer (some ⟨hL, 0, none⟩)])::(.int .i64 (i : Int))::(.pointer (some ⟨hr, i, none⟩))::(.pointer (some ⟨r i, 0, none⟩))::(.pointer (some ⟨r i, 0, none⟩))::(.pointer (some ⟨r i, 0, none⟩))::(.slice A (l i).length c)::(.agg (kpL (⟨hL, u, A, c, l i⟩ : Kp)).toArray)::(.agg (kpL (⟨hL, u, A, c, l i⟩ : Kp)).toArray)::(.bool true)::(.bool false)::(.bool false)::(.int .i64 (i : Int))::(.pointer (some ⟨hp, i, none⟩))::(.pointer (some ⟨g i, 0, none⟩))::(.int .i64 ((l i).length : Int))::(.int .i64 (i : Int))::(.pointer (some ⟨hr, i, none⟩))::(.pointer (some ⟨r i, 0, none⟩))::(.pointer (some ⟨r i, 0, none⟩))::(.pointer (some ⟨r i, 0, none⟩))::(.slice A (l i).length c)::(.int .i64 ((l i).length : Int))::(.bool false)::(.bool false)::[]), []⟩) (by kernel_rfl) ?_
        refine HD.wa_done (by kernel_rfl) ?_
        go_upto_region 28 with fail
        refine HD.wl_begin ?_
        refine HD.wl_takeF (d := some 103) (v := (.int .i64 (i : Int))) (by kernel_rfl) rfl rfl (y_move rfl (by kernel_rfl)) ?_
        refine HD.wl_takeF (d := some 104) (v := (.int .i64 ((i : Int) + 1))) (by kernel_rfl) rfl rfl (y_addi (by have := HI.out; omega) rfl (by kernel_rfl) (by kernel_rfl)) ?_
        refine HD.wl_takeF (d := some 12) (v := (.int .i64 ((i : Int) + 1))) (by kernel_rfl) rfl rfl (y_assign rfl (by kernel_rfl)) ?_
        refine HD.wl_norm (a' := ⟨List.toArray (u0::u1::u2::(.pointer (some ⟨hp, 0, none⟩))::(.pointer (some ⟨hr, 0, none⟩))::u5::u6::u7::u8::u9::u10::u11::(.int .i64 ((i : Int) + 1))::(.pointer (some ⟨h13, 0, none⟩))::u14::u15::u16::u17::u18::u19::u20::u21::u22::u23::u24::u25::u26::u27::u28::u29::u30::u31::u32::u33::u34::u35::u36::u37::u38::u39::u40::u41::u42::u43::u44::u45::u46::u47::u48::u49::u50::u51::u52::u53::u54::u55::u56::u57::u58::u59::u60::u61::u62::u63::u64::u65::u66::u67::u68::u69::u70::u71::u72::u73::u74::u75::u76::u77::u78::u79::u80::u81::u82::u83::u84::u85::u86::u87::u88::u89::u90::u91::u92::u93::u94::u95::u96::u97::u98::u99::u100::(.int .i64 (i : Int))::(.bool true)::(.int .i64 (i : Int))::(.int .i64 ((i : Int) + 1))::(.int .i64 (i : Int))::(.pointer (some ⟨hp, i, none⟩))::(.pointer (some ⟨g i, 0, none⟩))::(.func (.func 62) #[] #[.pointer (some ⟨hL, 0, none⟩)])::(.int .i64 (i : Int))::(.pointer (some ⟨hr, i, none⟩))::(.pointer (some ⟨r i, 0, none⟩))::(.pointer (some ⟨r i, 0, none⟩))::(.pointer (some ⟨r i, 0, none⟩))::(.slice A (l i).length c)::(.agg (kpL (⟨hL, u, A, c, l i⟩ : Kp)).toArray)::(.agg (kpL (⟨hL, u, A, c, l i⟩ : Kp)).toArray)::(.bool true)::(.bool false)::(.bool false)::(.int .i64 (i : Int))::(.pointer (some ⟨hp, i, none⟩))::(.pointer (some ⟨g i, 0, none⟩))::(.int .i64 ((l i).length : Int))::(.int .i64 (i : Int))::(.pointer (some ⟨hr, i, none⟩))::(.pointer (some ⟨r i, 0, none⟩))::(.pointer (some ⟨r i, 0, none⟩))::(.pointer (some ⟨r i, 0, none⟩))::(.slice A (l i).length c)::(.int .i64 ((l i).length : Int))::(.bool false)::(.bool false)::[]), []⟩) (by kernel_rfl) ?_
        refine HD.wl_done ?_
        exact ⟨⟨_, _, _, _, _, _, _, _, _, _, _, _, _, _, _, _, _, _, _, _, _, _, _, _, _, _, _, _, _, _, _, _, _, _, _, ⟨i + 1, HI.out, rfl, H9.out⟩, rfl⟩, HM.out⟩
    · obtain rfl : i = 2 := by omega
      have d1 : decide (((2 : Nat) : Int) < 2) = false := decide_eq_false (by omega)
      clear hlt hi
      go_upto_region 27 with fail
      refine HD.wl_begin ?_
      refine HD.wl_takeF (d := some 101) (v := (.int .i64 ((2 : Nat) : Int))) (by kernel_rfl) rfl rfl (y_move rfl (by kernel_rfl)) ?_
      refine HD.wl_takeF (d := some 102) (v := (.bool false)) (by kernel_rfl) rfl rfl (y_lssi (n := 2) d1 rfl (by kernel_rfl) (by kernel_rfl)) ?_
      refine HD.wl_norm (a' := ⟨List.toArray (u0::u1::u2::(.pointer (some ⟨hp, 0, none⟩))::(.pointer (some ⟨hr, 0, none⟩))::u5::u6::u7::u8::u9::u10::u11::(.int .i64 ((2 : Nat) : Int))::u13::u14::u15::u16::u17::u18::u19::u20::u21::u22::u23::u24::u25::u26::u27::u28::u29::u30::u31::u32::u33::u34::u35::u36::u37::u38::u39::u40::u41::u42::u43::u44::u45::u46::u47::u48::u49::u50::u51::u52::u53::u54::u55::u56::u57::u58::u59::u60::u61::u62::u63::u64::u65::u66::u67::u68::u69::u70::u71::u72::u73::u74::u75::u76::u77::u78::u79::u80::u81::u82::u83::u84::u85::u86::u87::u88::u89::u90::u91::u92::u93::u94::u95::u96::u97::u98::u99::u100::(.int .i64 ((2 : Nat) : Int))::(.bool false)::u103::u104::u105::u106::u107::u108::u109::u110::u111::u112::u113::u114::u115::u116::u117::u118::u119::u120::u121::u122::u123::u124::u125::u126::u127::u128::u129::u130::u131::u132::[]), []⟩) (by kernel_rfl) ?_
      refine HD.wl_done ?_
      go_wp2_with fail
      go_ret
      exact ⟨rfl, HE.out.lo⟩
set_option maxRecDepth 100000 in
set_option maxHeartbeats 20000000 in
theorem end2_any {w W : World} {hp hr B : Nat} {O : Nat → Nat → Prop} {g r : Nat → Nat} {v : Nat → Value} {l : Nat → List (Key × Ent)} {Z : Nat → Prop} {kv : Value} {ks : List Kp} {n m : Nat} {u0 u1 u2 u6 u7 u8 u9 u10 u11 u12 u13 u14 u15 u16 u17 u18 u19 u20 u21 u22 u23 u24 u25 u26 u27 u28 u29 u30 u31 u32 u33 u34 u35 u36 u37 u38 u39 u40 u41 u42 u43 u44 u45 u46 u47 u48 u49 u50 u51 u52 u53 u54 u55 u56 u57 u58 u59 u60 u61 u62 u63 u64 u65 u66 u67 u68 u69 u70 u71 u72 u73 u74 u75 u76 u77 u78 u79 u80 u81 u82 u83 u84 u85 u86 u87 u88 u89 u90 u91 u92 u93 u94 u95 u96 u97 u98 u99 u100 u101 u102 u103 u104 u105 u106 u107 u108 u109 u110 u111 u112 u113 u114 u115 u116 u117 u118 u119 u120 u121 u122 u123 u124 u125 u126 u127 u128 u129 u130 u131 u132 : Value}
    (hE : EX w hp hr B O g r v l Z kv ks n m W) (hn : n ≤ 1048576) (hm : m ≤ 1048576) :
    Code.wp Try.prog ex21 (bodyPost Try.prog Try.f6 fun e w' => e = .returned (.bool true) ∧ Mod no w w') ⟨List.toArray (u0::u1::u2::(.pointer (some ⟨hp, 0, none⟩))::(.pointer (some ⟨hr, 0, none⟩))::(kv)::u6::u7::u8::u9::u10::u11::u12::u13::u14::u15::u16::u17::u18::u19::u20::u21::u22::u23::u24::u25::u26::u27::u28::u29::u30::u31::u32::u33::u34::u35::u36::u37::u38::u39::u40::u41::u42::u43::u44::u45::u46::u47::u48::u49::u50::u51::u52::u53::u54::u55::u56::u57::u58::u59::u60::u61::u62::u63::u64::u65::u66::u67::u68::u69::u70::u71::u72::u73::u74::u75::u76::u77::u78::u79::u80::u81::u82::u83::u84::u85::u86::u87::u88::u89::u90::u91::u92::u93::u94::u95::u96::u97::u98::u99::u100::u101::u102::u103::u104::u105::u106::u107::u108::u109::u110::u111::u112::u113::u114::u115::u116::u117::u118::u119::u120::u121::u122::u123::u124::u125::u126::u127::u128::u129::u130::u131::u132::[]), []⟩ W := by
  have HN := Lib.hid (And.intro hn hm)
  obtain ⟨A, c, rfl, hrd0⟩ := hE.kr.read
  have HE := Lib.hid hE
  clear hE hn hm hrd0
  show Code.wp Try.prog (Code.seq (sL ex21) ex26) _ _ _
  refine wp_seq_k fun K hK => ?_
  have HK := Lib.hid hK
  clear hK
  conv => arg 2; whnf
  go_wp2_with fail
  go_loopw [11] (fun v11 w' => ∃ (j : Nat), j ≤ ks.length ∧ v11 = .int .i64 (j : Int) ∧ EX w hp hr B O g r v l Z (.slice A ks.length c) ks n m w') (fun v _ => ks.length - (intOf v).toNat)
  case atStart => exact ⟨0, Nat.zero_le _, rfl, HE.out⟩
  case round =>
    clear HE
    obtain ⟨j, hj, rfl, hE⟩ := hrel
    have HE := Lib.hid hE
    clear hE
    by_cases hlt : j < ks.length
    · obtain ⟨k, hk⟩ : ∃ k, ks[j]? = some k := ⟨_, List.getElem?_eq_getElem hlt⟩
      obtain ⟨A', c', he, hrd⟩ := HE.out.kr.read
      obtain ⟨b, o, hA, hkr⟩ := hrd j k hk
      injection he with he1 he2 he3
      subst he1
      subst hA
      have d1 : decide ((j : Int) < (ks.length : Int)) = true := decide_eq_true (by omega)
      have HM := Lib.hid (show ks.length - ((j : Int) + 1).toNat < ks.length - ((j : Int)).toNat by omega)
      have HI := Lib.hid (And.intro hlt (And.intro hkr (HE.out.kk k (List.mem_of_getElem? hk))))
      clear hlt hj hk hkr hrd he2 he3
      go_upto_region 22 with fail
      refine HD.wl_begin ?_
      refine HD.wl_takeF (d := some 89) (v := (.int .i64 (j : Int))) (by kernel_rfl) rfl rfl (y_move rfl (by kernel_rfl)) ?_
      refine HD.wl_takeF (d := some 90) (v := (.slice (some ⟨b, o, none⟩) ks.length c)) (by kernel_rfl) rfl rfl (y_move rfl (by kernel_rfl)) ?_
      refine HD.wl_takeF (d := some 91) (v := (.int .i64 (ks.length : Int))) (by kernel_rfl) rfl rfl (y_lenkp (A := some ⟨b, o, none⟩) (c := c) rfl (by kernel_rfl)) ?_
      refine HD.wl_takeF (d := some 92) (v := (.bool true)) (by kernel_rfl) rfl rfl (y_lssi d1 rfl (by kernel_rfl) (by kernel_rfl)) ?_
      refine HD.wl_norm (a' := ⟨List.toArray (u0::u1::u2::(.pointer (some ⟨hp, 0, none⟩))::(.pointer (some ⟨hr, 0, none⟩))::(.slice (some ⟨b, o, none⟩) ks.length c)::u6::u7::u8::u9::u10::(.int .i64 (j : Int))::u12::u13::u14::u15::u16::u17::u18::u19::u20::u21::u22::u23::u24::u25::u26::u27::u28::u29::u30::u31::u32::u33::u34::u35::u36::u37::u38::u39::u40::u41::u42::u43::u44::u45::u46::u47::u48::u49::u50::u51::u52::u53::u54::u55::u56::u57::u58::u59::u60::u61::u62::u63::u64::u65::u66::u67::u68::u69::u70::u71::u72::u73::u74::u75::u76::u77::u78::u79::u80::u81::u82::u83::u84::u85::u86::u87::u88::(.int .i64 (j : Int))::(.slice (some ⟨b, o, none⟩) ks.length c)::(.int .i64 (ks.length : Int))::(.bool true)::u93::u94::u95::u96::u97::u98::u99::u100::u101::u102::u103::u104::u105::u106::u107::u108::u109::u110::u111::u112::u113::u114::u115::u116::u117::u118::u119::u120::u121::u122::u123::u124::u125::u126::u127::u128::u129::u130::u131::u132::[]), []⟩) (by kernel_rfl) ?_
      refine HD.wl_done ?_
      go_upto_region 24 with fail
      refine HD.wl_begin ?_
      refine HD.wl_takeF (d := some 95) (v := (.slice (some ⟨b, o, none⟩) ks.length c)) (by kernel_rfl) rfl rfl (y_move rfl (by kernel_rfl)) ?_
      refine HD.wl_takeF (d := some 96) (v := (.int .i64 (j : Int))) (by kernel_rfl) rfl rfl (y_move rfl (by kernel_rfl)) ?_
      refine HD.wl_takeF (d := some 97) (v := (.pointer (some ⟨b, o + j * 2, none⟩))) (by kernel_rfl) rfl rfl (y_ixkp (c := c) rfl (by kernel_rfl) (by kernel_rfl) HI.out.1) ?_
      refine HD.wl_takeF (d := some 98) (v := (.agg (kpL k).toArray)) (by kernel_rfl) rfl rfl (y_ldkp rfl (by kernel_rfl) HI.out.2.1) ?_
      refine HD.wl_callF (d := some 99) (v := (.bool true)) (by kernel_rfl) rfl rfl fun K hK => ?_
      refine op_c1 (fun _ _ => rfl) rfl (by kernel_rfl) (tells_any HI.out.2.2.1.b HI.out.2.2.1.r HI.out.2.2.1.w (fun b hb => (HE.out.zo b (HI.out.2.2.2.2.2 b hb)).2.2.2.2) (by have := HI.out.2.2.1.len; omega)) ?_
      rintro e w6 ⟨rfl, hm6⟩
      have H9 := Lib.hid (HE.out.mod0 hm6)
      clear hm6
      refine ⟨_, rfl, hK _ ?_⟩
      clear hK K
      refine HD.wl_takeF (d := some 100) (v := (.bool false)) (by kernel_rfl) rfl rfl (y_not (b := true) rfl (by kernel_rfl)) ?_
      refine HD.wl_norm (a' := ⟨List.toArray (u0::u1::u2::(.pointer (some ⟨hp, 0, none⟩))::(.pointer (some ⟨hr, 0, none⟩))::(.slice (some ⟨b, o, none⟩) ks.length c)::u6::u7::u8::u9::u10::(.int .i64 (j : Int))::u12::u13::u14::u15::u16::u17::u18::u19::u20::u21::u22::u23::u24::u25::u26::u27::u28::u29::u30::u31::u32::u33::u34::u35::u36::u37::u38::u39::u40::u41::u42::u43::u44::u45::u46::u47::u48::u49::u50::u51::u52::u53::u54::u55::u56::u57::u58::u59::u60::u61::u62::u63::u64::u65::u66::u67::u68::u69::u70::u71::u72::u73::u74::u75::u76::u77::u78::u79::u80::u81::u82::u83::u84::u85::u86::u87::u88::(.int .i64 (j : Int))::(.slice (some ⟨b, o, none⟩) ks.length c)::(.int .i64 (ks.length : Int))::(.bool true)::u93::u94::(.slice (some ⟨b, o, none⟩) ks.length c)::(.int .i64 (j : Int))::(.pointer (some ⟨b, o + j * 2, none⟩))::(.agg (kpL k).toArray)::(.bool true)::(.bool false)::u101::u102::u103::u104::u105::u106::u107::u108::u109::u110::u111::u112::u113::u114::u115::u116::u117::u118::u119::u120::u121::u122::u123::u124::u125::u126::u127::u128::u129::u130::u131::u132::[]), []⟩) (by kernel_rfl) ?_
      refine HD.wl_done ?_
      go_upto_region 23 with fail
      refine HD.wl_begin ?_
      refine HD.wl_takeF (d := some 93) (v := (.int .i64 (j : Int))) (by kernel_rfl) rfl rfl (y_move rfl (by kernel_rfl)) ?_
      refine HD.wl_takeF (d := some 94) (v := (.int .i64 ((j : Int) + 1))) (by kernel_rfl) rfl rfl (y_addi (by have := HI.out.1; have := HE.out.kn; have := HN.out.2; omega) rfl (by kernel_rfl) (by kernel_rfl)) ?_
      refine HD.wl_takeF (d := some 11) (v := (.int .i64 ((j : Int) + 1))) (by kernel_rfl) rfl rfl (y_assign rfl (by kernel_rfl)) ?_
      refine HD.wl_norm (a' := ⟨List.toArray (u0::u1::u2::(.pointer (some ⟨hp, 0, none⟩))::(.pointer (some ⟨hr, 0, none⟩))::(.slice (some ⟨b, o, none⟩) ks.length c)::u6::u7::u8::u9::u10::(.int .i64 ((j : Int) + 1))::u12::u13::u14::u15::u16::u17::u18::u19::u20::u21::u22::u23::u24::u25::u26::u27::u28::u29::u30::u31::u32::u33::u34::u35::u36::u37::u38::u39::u40::u41::u42::u43::u44::u45::u46::u47::u48::u49::u50::u51::u52::u53::u54::u55::u56::u57::u58::u59::u60::u61::u62::u63::u64::u65::u66::u67::u68::u69::u70::u71::u72::u73::u74::u75::u76::u77::u78::u79::u80::u81::u82::u83::u84::u85::u86::u87::u88::(.int .i64 (j : Int))::(.slice (some ⟨b, o, none⟩) ks.length c)::(.int .i64 (ks.length : Int))::(.bool true)::(.int .i64 (j : Int))::(.int .i64 ((j : Int) + 1))::(.slice (some ⟨b, o, none⟩) ks.length c)::(.int .i64 (j : Int))::(.pointer (some ⟨b, o + j * 2, none⟩))::(.agg (kpL k).toArray)::(.bool true)::(.bool false)::u101::u102::u103::u104::u105::u106::u107::u108::u109::u110::u111::u112::u113::u114::u115::u116::u117::u118::u119::u120::u121::u122::u123::u124::u125::u126::u127::u128::u129::u130::u131::u132::[]), []⟩) (by kernel_rfl) ?_
      refine HD.wl_done ?_
      exact ⟨⟨_, _, _, _, _, _, _, _, _, _, _, _, _, _, ⟨j + 1, HI.out.1, rfl, H9.out⟩, rfl⟩, HM.out⟩
    · obtain rfl : j = ks.length := by omega
      have d1 : decide ((ks.length : Int) < (ks.length : Int)) = false := decide_eq_false (by omega)
      clear hlt hj
      go_upto_region 22 with fail
      refine HD.wl_begin ?_
      refine HD.wl_takeF (d := some 89) (v := (.int .i64 (ks.length : Int))) (by kernel_rfl) rfl rfl (y_move rfl (by kernel_rfl)) ?_
      refine HD.wl_takeF (d := some 90) (v := (.slice A ks.length c)) (by kernel_rfl) rfl rfl (y_move rfl (by kernel_rfl)) ?_
      refine HD.wl_takeF (d := some 91) (v := (.int .i64 (ks.length : Int))) (by kernel_rfl) rfl rfl (y_lenkp (A := A) (c := c) rfl (by kernel_rfl)) ?_
      refine HD.wl_takeF (d := some 92) (v := (.bool false)) (by kernel_rfl) rfl rfl (y_lssi d1 rfl (by kernel_rfl) (by kernel_rfl)) ?_
      refine HD.wl_norm (a' := ⟨List.toArray (u0::u1::u2::(.pointer (some ⟨hp, 0, none⟩))::(.pointer (some ⟨hr, 0, none⟩))::(.slice A ks.length c)::u6::u7::u8::u9::u10::(.int .i64 (ks.length : Int))::u12::u13::u14::u15::u16::u17::u18::u19::u20::u21::u22::u23::u24::u25::u26::u27::u28::u29::u30::u31::u32::u33::u34::u35::u36::u37::u38::u39::u40::u41::u42::u43::u44::u45::u46::u47::u48::u49::u50::u51::u52::u53::u54::u55::u56::u57::u58::u59::u60::u61::u62::u63::u64::u65::u66::u67::u68::u69::u70::u71::u72::u73::u74::u75::u76::u77::u78::u79::u80::u81::u82::u83::u84::u85::u86::u87::u88::(.int .i64 (ks.length : Int))::(.slice A ks.length c)::(.int .i64 (ks.length : Int))::(.bool false)::u93::u94::u95::u96::u97::u98::u99::u100::u101::u102::u103::u104::u105::u106::u107::u108::u109::u110::u111::u112::u113::u114::u115::u116::u117::u118::u119::u120::u121::u122::u123::u124::u125::u126::u127::u128::u129::u130::u131::u132::[]), []⟩) (by kernel_rfl) ?_
      refine HD.wl_done ?_
      go_wp2_with fail
      refine HK.out _ _ (end3_any HE.out HN.out.1)
end Go.Proofs.Ytknbehjhaaidoaa.IX

