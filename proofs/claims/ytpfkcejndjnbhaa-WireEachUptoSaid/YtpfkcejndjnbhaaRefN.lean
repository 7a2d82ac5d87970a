/- The document's taker: bytes. -/
import Derived.Test.YtpfkcejndjnbhaaRefA
import Derived.StillTailTactics
namespace Go.Proofs.Ytpfkcejndjnbhaa.RD
open Go.RowKit Mem WM
open Go.Proofs.Ytpfkcejndjnbhaa.WD (RdT RdB u8_info conv_string own_lower own_mod conv_range fixA_lt raw_len key_size mod_sets)
set_option linter.unusedVariables false
set_option linter.unusedSimpArgs false

set_option maxRecDepth 100000 in
set_option maxHeartbeats 1000000 in
theorem rraw_any {w : World} {g gb : Nat} {bs : List UInt8} {s : St} (n : Int) (h : RAt w g gb bs s) (hb : bs.length ≤ 70368744177664) :
    Calls Try.prog 21 #[.pointer (some ⟨g, 0, none⟩), .int .i64 n] w fun e w' =>
      ∃ A' c', e = .returned (.slice A' (rawA bs s n).2.length c') ∧ w'.ownsRow w.heap.size 5 1 (.slice A' (rawA bs s n).2.length c') (rawA bs s n).2.length (bvs (rawA bs s n).2) ∧ RAt w' g gb bs (rawA bs s n).1 ∧ Mod (one g) w w' := by
  have HB := Lib.hid hb
  clear hb
  cases s with
  | dead a e =>
    have H := Lib.hid h
    obtain ⟨A, c, p, hb, h1⟩ := h
    have c2 := hb.cell 2
    simp at c2
    go_enter Try.func21, Try.ntmps21
    go_wp2_with fail
    go_ret
    exact ⟨none, 0, rfl, ⟨rfl, .inl ⟨rfl, rfl⟩⟩, H.out, Mod.refl _ _⟩
  | live p =>
    have H := Lib.hid h
    obtain ⟨A, c, hb, h1, h2, h3, h4⟩ := h
    have c0 := hb.cell 0
    have c1 := hb.cell 1
    have c2 := hb.cell 2
    simp at c0 c1 c2
    have HA := Lib.hid h3
    clear h3
    have hL := h2
    unfold maxLen at hL
    by_cases hn : n ≤ 0
    · have hr : rawA bs (.live p) n = (.live p, []) := by simp only [rawA]; rw [if_pos hn]
      have HR := Lib.hid hr
      clear hr
      go_enter Try.func21, Try.ntmps21
      go_wp2_with fail
      go_ret
      rw [HR.out]
      exact ⟨none, 0, rfl, ⟨rfl, .inl ⟨rfl, rfl⟩⟩, H.out, Mod.refl _ _⟩
    · have e1 : IntKind.i64.wrap ((bs.length : Int) - (p : Int)) = (bs.length : Int) - (p : Int) := IntWalk.i64_in _ (by omega)
      by_cases hm : n.toNat ≤ bs.length - p
      · have hr : rawA bs (.live p) n = (.live (p + n.toNat), (bs.drop p).take n.toNat) := by simp only [rawA]; rw [if_neg hn, if_pos hm]
        have HR := Lib.hid hr
        have hgt : decide ((bs.length : Int) - (p : Int) < n) = false := by simp; omega
        have e2 : IntKind.i64.wrap ((p : Int) + n) = (p : Int) + n := IntWalk.i64_in _ (by omega)
        obtain ⟨k, rfl⟩ : ∃ k : Nat, n = (k : Int) := ⟨n.toNat, by omega⟩
        rw [Int.toNat_natCast] at hm
        have HM := Lib.hid hm
        have x1 : (0 : Int) ≤ (p : Int) := by omega
        have x2 : (p : Int) ≤ (p : Int) + (k : Int) := by omega
        have x3 : (p : Int) + (k : Int) ≤ (c : Int) := by omega
        clear hr
        go_enter Try.func21, Try.ntmps21
        go_wp2_with fail
        go_quiet (fail)
        go_wp2_with fail
        have hb2 := hb.drewN nq
        have HA2 := Lib.hid (show RdB (w.drewN nq) gb A bs from HA.out)
        have M2 : Mod (one g) w (w.drewN nq) := (Mod.refl _ _).drewN _
        clear c0 c1 c2
        generalize w.drewN nq = w2 at hb2 HA2 M2 ⊢
        have c0 := hb2.cell 0
        have c1 := hb2.cell 1
        simp at c0 c1
        go_still_tail 16, (by kernel_rfl)
        repeat still_step
        change wpList _ _ _ _ _ w2.drew
        have hk3 : ((p : Int) + (k : Int)).toNat - p = ((bs.drop p).take k).length := by simp; omega
        have hkl : ((bs.drop p).take k).length = k := by simp; omega
        have hcut := (HA2.out.cut (c := c) p k (by omega) h1).t
        rw [hk3]
        obtain ⟨i0, hi, hz0, hz1, hz2⟩ := info_parts u8_info
        have HCU := Lib.hid hcut
        have HK := Lib.hid hkl
        have hsz := M2.size
        have HSZ := Lib.hid hsz
        have HM2 := Lib.hid M2
        clear hcut hkl hk3 hsz M2
        refine wpList_append _ rfl (.tmp 32) (.tmp 47) _ rfl w.heap.size 5 i0 (.int .u8 0) 1 1 Try.underlying23 hi hz0 hz1 hz2 rfl (by decide) (.slice none 0 0) 0 [] rfl ⟨rfl, .inl ⟨rfl, rfl⟩⟩ _ ((bs.drop p).take k).length _ (bvs ((bs.drop p).take k)) rfl ((RdT.mod (S := no) HCU.out ((Mod.refl _ _).drew) (fun _ _ _ c => c)).rds) (bvs_one _) (by have := HK.out; have := HB.out; simp only [maxLen]; omega) (by have := HK.out; have := HB.out; omega) (by have := HSZ.out; exact this) ?_
        intro v1 w3 hown hg hat hnn
        simp only [Nat.zero_add, List.nil_append] at hown
        obtain ⟨A', c', rfl⟩ := own_form hown
        have M3 : Mod no w2 w3 := ((Mod.refl no w2).drew).and_then (Mod.of_grown hg (fun k hk e => by simp [Value.ownBlock] at e))
        have hb3 := hb2.mod M3 (fun c => c)
        have HO := Lib.hid hown
        have HM3 := Lib.hid M3
        clear c0 c1 hown hg hat hnn M3
        have c1 := hb3.cell 1
        have f1 := hb3.free 1
        simp at c1
        go_wp2_with fail
        go_ret
        have L := fun n => rlive_put (p' := p + k) hb3 h1 h2 (HA2.out.mod HM3.out (fun _ c => c)) (by have := HM.out; omega) n (v := (p : Int) + (k : Int)) (by omega)
        have hkk := HK.out
        rw [HR.out]
        rw [Int.toNat_natCast]
        refine ⟨A', c', by rw [hkk]; rfl, ?_, (L 0).1, ?_⟩
        · have ho := own_mod HO.out (L 0).2 (fun k' hk' c => by have := H.out.typ; obtain ⟨ct, hct⟩ := this; have := hct.lt; simp only [one] at c; omega)
          rw [hkk] at ho ⊢
          exact ho
        · exact (HM2.out.and_then (HM3.out.mono (S' := one g) (fun _ _ c => False.elim c))).and_then (L 0).2
      · have hr : rawA bs (.live p) n = (.dead p 10, []) := by simp only [rawA]; rw [if_neg hn, if_neg hm]
        have HR := Lib.hid hr
        have hgt : (bs.length : Int) - (p : Int) < n := by omega
        clear hr
        go_enter Try.func21, Try.ntmps21
        go_wp2_with fail
        go_quiet (fail)
        go_wp2_with fail
        refine (rstop_v p 10 (hb.drewN _) h4 rfl rfl).mono ?_
        rintro e w1 ⟨rfl, D, M⟩
        go_wp2_with fail
        go_ret
        rw [HR.out]
        exact ⟨none, 0, rfl, ⟨rfl, .inl ⟨rfl, rfl⟩⟩, D, ((Mod.refl (one g) w).drewN _).and_then M⟩

end Go.Proofs.Ytpfkcejndjnbhaa.RD
