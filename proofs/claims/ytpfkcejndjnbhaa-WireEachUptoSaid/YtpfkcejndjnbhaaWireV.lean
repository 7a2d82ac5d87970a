/- The program's taker: a number. -/
import Derived.Test.YtpfkcejndjnbhaaWireD
import Derived.Test.YtpfkcejndjnbhaaWireB
namespace Go.Proofs.Ytpfkcejndjnbhaa.WD
open Go.RowKit Mem WM
set_option linter.unusedVariables false
set_option linter.unusedSimpArgs false

set_option maxRecDepth 100000 in
set_option maxHeartbeats 1000000 in
/-- Var, where it stands. -/
theorem var_live {w : World} {g gb : Nat} {bs : List UInt8} {p : Nat} (most : Int) (h : LiveAt w g gb bs p) (hm1 : 0 ≤ most) (hm2 : most ≤ 18446744073709551615) :
    Calls Try.prog 29 #[.pointer (some ⟨g, 0, none⟩), .int .u64 most] w fun e w' => ∃ s n, varA bs (.live p) most.toNat = (s, n) ∧ e = .returned (.int .u64 (n : Int)) ∧ DecAt w' g gb bs s ∧ Mod (one g) w w' := by
  obtain ⟨A, c, hb, h1, h2, h3, h4⟩ := h
  have HL := Lib.hid (show LiveAt w g gb bs p from ⟨A, c, hb, h1, h2, h3, h4⟩)
  have HM := Lib.hid hm2
  clear hm2
  go_enter Try.func29, Try.ntmps29
  go_wp2_with (go_at_call 51; refine (over_live HL.out).mono ?_; rintro e w' ⟨rfl, rfl⟩)
  have hL := h2
  unfold maxLen at hL
  go_loopw [5, 10] (fun v k wr => ∃ (i : Nat) (n : Nat) (q : Nat), i ≤ 9 ∧ n < 128 ^ i ∧ p + i ≤ bs.length ∧ k = .int .i64 (i : Int) ∧ v = .int .u64 (n : Int) ∧ wr = w.drewN q ∧ varGo bs p most.toNat (10 - i) i n = varGo bs p most.toNat 10 0 0) (fun _ k _ => 10 - (intOf k).toNat)
  case atStart => exact ⟨0, 0, 0, by omega, by simp, by omega, rfl, rfl, rfl, rfl⟩
  case round =>
    obtain ⟨i, n, q, hi, hn, hpi, rfl, rfl, rfl, hgo⟩ := hrel
    have HG := Lib.hid hgo
    clear hgo
    have HA := Lib.hid h3
    clear h3
    have c0 := (hb.drewN q).cell 0
    have c1 := (hb.drewN q).cell 1
    simp at c0 c1
    have e1 : IntKind.i64.wrap ((p : Int) + (i : Int)) = (p : Int) + (i : Int) := IntWalk.i64_in _ (by omega)
    cases hbi : bs[p + i]? with
    | none =>
      have hend : p + i = bs.length := by have := List.getElem?_eq_none_iff.1 hbi; omega
      have b1 : ((p : Int) + (i : Int) == (bs.length : Int)) = true := by simp; omega
      have HE := Lib.hid hend
      have HB := Lib.hid hbi
      clear hend hbi
      go_wp2_with fail
      go_quiet (fail)
      go_wp2_with fail
      refine (stop_any _ _ (hb.drewN _)).mono ?_
      rintro e w1 ⟨rfl, k, B1, B2, M⟩
      go_wp2_with fail
      go_ret
      refine ⟨.dead p 10, 0, ?_, rfl, ⟨A, c, p, k, B1, B2, h4⟩, ?_⟩
      · rw [varA, ← HG.out, show 10 - i = (9 - i) + 1 by omega, varGo, HB.out]
      · exact ((Mod.refl (one g) w).drewN _).and_then M
    | some b =>
      have hlt : p + i < bs.length := (List.getElem?_eq_some_iff.1 hbi).1
      have b1 : ((p : Int) + (i : Int) == (bs.length : Int)) = false := by simp; omega
      have hne : bs ≠ [] := by rintro rfl; simp at hlt
      obtain ⟨o, cs, rfl, hbb, hcs⟩ := HA.out hne
      have cb : w.cell? ⟨gb, o + (p + i), none⟩ = some (.int .u8 (b.toNat : Int)) := by
        rw [hbb.cell, hcs _ hlt, bvs_get', hbi]; rfl
      have hb255 := byte_lt b
      obtain ⟨hb0, hb1⟩ := hb255
      have hx1 : (0 : Int) ≤ (p : Int) + (i : Int) := by omega
      have e2 : ((p : Int) + (i : Int)).toNat = p + i := by omega
      have hx2 : (p : Int) + (i : Int) < (bs.length : Int) := by omega
      have HS := Lib.hid (show varGo bs p most.toNat (10 - i) i n = _ by rw [show 10 - i = (9 - i) + 1 by omega, varGo, hbi])
      have HC := Lib.hid hcs
      clear hbi hcs
      by_cases ca : i = 9 ∧ 1 < b.toNat
      · obtain ⟨rfl, ca2⟩ := ca
        by_cases c128 : 128 ≤ b.toNat
        all_goals
          go_wp2_with fail
          go_quiet (fail)
          go_wp2_with fail
          go_quiet (fail)
          go_wp2_with fail
          refine (stop_any _ _ (hb.drewN _)).mono ?_
          rintro e w1 ⟨rfl, k, B1, B2, M⟩
          go_wp2_with fail
          go_ret
          refine ⟨.dead p 11, 0, ?_, rfl, ⟨_, c, p, k, B1, by simpa using B2, h4⟩, ((Mod.refl (one g) w).drewN _).and_then M⟩
          rw [varA, ← HG.out, HS.out]
          simp [ca2]
      · have hN : n + b.toNat % 128 * 128 ^ i < 18446744073709551616 := by
          by_cases h9 : i = 9
          · subst h9
            have : b.toNat ≤ 1 := by omega
            have h2 : b.toNat % 128 * 128 ^ 9 ≤ 1 * 128 ^ 9 := Nat.mul_le_mul_right _ (by omega)
            have : (128 : Nat) ^ 9 = 9223372036854775808 := by decide
            omega
          · have h1 : b.toNat % 128 * 128 ^ i ≤ 127 * 128 ^ i := Nat.mul_le_mul_right _ (by omega)
            have h2 : (128 : Nat) ^ (i + 1) ≤ 128 ^ 9 := Nat.pow_le_pow_right (by decide) (by omega)
            rw [Nat.pow_succ] at h2
            have : (128 : Nat) ^ 9 = 9223372036854775808 := by decide
            omega
        have F := WB.or_step n i b.toNat hn b.toNat_lt hN
        have HN := Lib.hid hN
        have Hn := Lib.hid hn
        clear hN hn
        obtain ⟨N, hNN⟩ : ∃ N, N = n + b.toNat % 128 * 128 ^ i := ⟨_, rfl⟩
        rw [← hNN] at F HN
        have HNN := Lib.hid hNN
        clear hNN
        by_cases c128 : 128 ≤ b.toNat
        · have hi9 : i < 9 := by omega
          go_wp2_with fail
          go_quiet (fail)
          go_wp2_with fail
          go_quiet (fail)
          go_wp2_with fail
          go_roundw
          case rel =>
            refine ⟨i + 1, N, _, by omega, ?_, by omega, by go_num, rfl, rfl, ?_⟩
            · rw [HNN.out, Nat.pow_succ]
              have h1 : b.toNat % 128 * 128 ^ i ≤ 127 * 128 ^ i := Nat.mul_le_mul_right _ (by omega)
              have := Hn.out
              omega
            · rw [← HG.out, HS.out]
              rw [if_neg ca, if_neg (by omega), HNN.out, show 10 - (i + 1) = 9 - i by omega]
          case measure => simp [intOf]; omega
        · by_cases cz : b.toNat = 0 ∧ 0 < i
          · obtain ⟨cz1, cz2⟩ := cz
            have bz : ((b.toNat : Int) == 0) = true := by simp [cz1]
            have cz3 : (b.toNat : Int) ≤ 0 := by omega
            have CZ := Lib.hid cz1
            clear cz1 F
            by_cases h9 : i = 9
            · have b9 : ((i : Int) == 9) = true := by simp [h9]
              have H9 := Lib.hid h9
              clear h9
              go_wp2_with fail
              go_quiet (fail)
              go_wp2_with fail
              go_quiet (fail)
              go_wp2_with fail
              refine (stop_any _ _ (hb.drewN _)).mono ?_
              rintro e w1 ⟨rfl, k, B1, B2, M⟩
              go_wp2_with fail
              go_ret
              refine ⟨.dead p 11, 0, ?_, rfl, ⟨_, c, p, k, B1, by simpa using B2, h4⟩, ((Mod.refl (one g) w).drewN _).and_then M⟩
              rw [varA, ← HG.out, HS.out]
              rw [if_neg ca, if_pos (by omega), if_pos ⟨CZ.out, cz2⟩]
            · have b9 : ((i : Int) == 9) = false := by simp; omega
              have H9 := Lib.hid h9
              clear h9
              go_wp2_with fail
              go_quiet (fail)
              go_wp2_with fail
              go_quiet (fail)
              go_wp2_with fail
              refine (stop_any _ _ (hb.drewN _)).mono ?_
              rintro e w1 ⟨rfl, k, B1, B2, M⟩
              go_wp2_with fail
              go_ret
              refine ⟨.dead p 11, 0, ?_, rfl, ⟨_, c, p, k, B1, by simpa using B2, h4⟩, ((Mod.refl (one g) w).drewN _).and_then M⟩
              rw [varA, ← HG.out, HS.out]
              rw [if_neg ca, if_pos (by omega), if_pos ⟨CZ.out, cz2⟩]
          · have hbN : b.toNat * 128 ^ i = b.toNat % 128 * 128 ^ i := by rw [Nat.mod_eq_of_lt (by omega)]
            have f1 := (hb.free 1)
            have HBN := Lib.hid hbN
            clear hbN
            -- which test says no
            by_cases h0 : b.toNat = 0
            · have bz : ((b.toNat : Int) == 0) = true := by simp [h0]
              have iz : (i : Int) ≤ 0 := by omega
              have b9 : ((i : Int) == 9) = false := by simp; omega
              have H0 := Lib.hid h0
              have CZ := Lib.hid cz
              clear h0 cz
              by_cases hm : most < (N : Int)
              · go_wp2_with fail
                go_quiet (fail)
                go_wp2_with fail
                go_quiet (fail)
                go_wp2_with fail
                refine (stop_any _ _ (hb.drewN _)).mono ?_
                rintro e w1 ⟨rfl, k, B1, B2, M⟩
                go_wp2_with fail
                go_ret
                refine ⟨.dead p 12, 0, ?_, rfl, ⟨_, c, p, k, B1, by simpa using B2, h4⟩, ((Mod.refl (one g) w).drewN _).and_then M⟩
                rw [varA, ← HG.out, HS.out]
                rw [if_neg ca, if_pos (by omega), if_neg CZ.out, if_pos (by rw [HBN.out, ← HNN.out]; omega)]
              · go_wp2_with fail
                go_quiet (fail)
                go_wp2_with fail
                go_quiet (fail)
                go_wp2_with fail
                go_ret
                have L := fun n => live_put (p' := p + i + 1) hb h1 h2 HA.out (by omega) n (v := (p : Int) + ((i : Int) + 1)) (by omega)
                refine ⟨.live (p + i + 1), N, ?_, rfl, (L _).1, (L _).2⟩
                rw [varA, ← HG.out, HS.out]
                rw [if_neg ca, if_pos (by omega), if_neg CZ.out, if_neg (by rw [HBN.out, ← HNN.out]; omega), HBN.out, ← HNN.out]
            · have bz : ((b.toNat : Int) == 0) = false := by simp; omega
              have CZ := Lib.hid cz
              clear cz
              by_cases h9 : i = 9
              · have b9 : ((i : Int) == 9) = true := by simp [h9]
                have hle : (b.toNat : Int) ≤ 1 := by omega
                have H9 := Lib.hid h9
                clear h9
                by_cases hm : most < (N : Int)
                · go_wp2_with fail
                  go_quiet (fail)
                  go_wp2_with fail
                  go_quiet (fail)
                  go_wp2_with fail
                  refine (stop_any _ _ (hb.drewN _)).mono ?_
                  rintro e w1 ⟨rfl, k, B1, B2, M⟩
                  go_wp2_with fail
                  go_ret
                  refine ⟨.dead p 12, 0, ?_, rfl, ⟨_, c, p, k, B1, by simpa using B2, h4⟩, ((Mod.refl (one g) w).drewN _).and_then M⟩
                  rw [varA, ← HG.out, HS.out]
                  rw [if_neg ca, if_pos (by omega), if_neg CZ.out, if_pos (by rw [HBN.out, ← HNN.out]; omega)]
                · go_wp2_with fail
                  go_quiet (fail)
                  go_wp2_with fail
                  go_quiet (fail)
                  go_wp2_with fail
                  go_ret
                  have L := fun n => live_put (p' := p + i + 1) hb h1 h2 HA.out (by omega) n (v := (p : Int) + ((i : Int) + 1)) (by omega)
                  refine ⟨.live (p + i + 1), N, ?_, rfl, (L _).1, (L _).2⟩
                  rw [varA, ← HG.out, HS.out]
                  rw [if_neg ca, if_pos (by omega), if_neg CZ.out, if_neg (by rw [HBN.out, ← HNN.out]; omega), HBN.out, ← HNN.out]
              · have b9 : ((i : Int) == 9) = false := by simp; omega
                have H9 := Lib.hid h9
                clear h9
                by_cases hm : most < (N : Int)
                · go_wp2_with fail
                  go_quiet (fail)
                  go_wp2_with fail
                  go_quiet (fail)
                  go_wp2_with fail
                  refine (stop_any _ _ (hb.drewN _)).mono ?_
                  rintro e w1 ⟨rfl, k, B1, B2, M⟩
                  go_wp2_with fail
                  go_ret
                  refine ⟨.dead p 12, 0, ?_, rfl, ⟨_, c, p, k, B1, by simpa using B2, h4⟩, ((Mod.refl (one g) w).drewN _).and_then M⟩
                  rw [varA, ← HG.out, HS.out]
                  rw [if_neg ca, if_pos (by omega), if_neg CZ.out, if_pos (by rw [HBN.out, ← HNN.out]; omega)]
                · go_wp2_with fail
                  go_quiet (fail)
                  go_wp2_with fail
                  go_quiet (fail)
                  go_wp2_with fail
                  go_ret
                  have L := fun n => live_put (p' := p + i + 1) hb h1 h2 HA.out (by omega) n (v := (p : Int) + ((i : Int) + 1)) (by omega)
                  refine ⟨.live (p + i + 1), N, ?_, rfl, (L _).1, (L _).2⟩
                  rw [varA, ← HG.out, HS.out]
                  rw [if_neg ca, if_pos (by omega), if_neg CZ.out, if_neg (by rw [HBN.out, ← HNN.out]; omega), HBN.out, ← HNN.out]

end Go.Proofs.Ytpfkcejndjnbhaa.WD
