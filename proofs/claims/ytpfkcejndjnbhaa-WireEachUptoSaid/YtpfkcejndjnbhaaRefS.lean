/- The law's small helpers: width, signed, copied. -/
import Derived.Test.YtpfkcejndjnbhaaRefK
namespace Go.Proofs.Ytpfkcejndjnbhaa.RD
open Go.RowKit Mem WM
open Go.Proofs.Ytpfkcejndjnbhaa.WD (RdT RdB u8_info conv_string own_lower own_mod conv_range fixA_lt raw_len key_size mod_sets raw_32)
set_option linter.unusedVariables false
set_option linter.unusedSimpArgs false

set_option maxRecDepth 100000 in
set_option maxHeartbeats 1000000 in
theorem width_any {w : World} (k : Int) :
    Calls Try.prog 49 #[.int .i64 k] w fun e w' => e = .returned (.int .i64 (WM.width k : Int)) ∧ w = w' := by
  have H : ∀ (a : Nat), WM.width k = a → (WM.width k : Int) = (a : Int) := fun a e => by rw [e]
  have E : (k = 5 ∨ k = 6 ∨ k = 7 ∨ k = 8 ∨ k = 9 ∨ k = 10 ∨ k = 11 ∨ k = 12) ∨ (k ≠ 5 ∧ k ≠ 6 ∧ k ≠ 7 ∧ k ≠ 8 ∧ k ≠ 9 ∧ k ≠ 10 ∧ k ≠ 11 ∧ k ≠ 12) := by omega
  clear H
  rcases E with h | ⟨h1, h2, h3, h4, h5, h6, h7, h8⟩
  · rcases h with h | h | h | h | h | h | h | h
    all_goals
      subst h
      go_enter Try.func49, Try.ntmps49
      go_wp2_with fail
      go_ret
      exact ⟨rfl, rfl⟩
  · have e : WM.width k = 0 := by simp [WM.width, *]
    have HE := Lib.hid e
    have b1 : (k == 5) = false := by simpa using h1
    have b2 : (k == 6) = false := by simpa using h2
    have b3 : (k == 7) = false := by simpa using h3
    have b4 : (k == 8) = false := by simpa using h4
    have b5 : (k == 9) = false := by simpa using h5
    have b6 : (k == 10) = false := by simpa using h6
    have b7 : (k == 11) = false := by simpa using h7
    have b8 : (k == 12) = false := by simpa using h8
    clear e h1 h2 h3 h4 h5 h6 h7 h8
    go_enter Try.func49, Try.ntmps49
    go_wp2_with fail
    go_ret
    rw [HE.out]
    exact ⟨rfl, rfl⟩

theorem half_sgn (v W : Nat) (hW : 1 ≤ W) (h8 : W ≤ 8) (hv : v < 256 ^ W) : (v < 128 * 256 ^ (W - 1) → sgn v W = v) ∧ (¬ v < 128 * 256 ^ (W - 1) → W ≠ 8 → IntKind.u64.wrap (IntKind.u64.wrap ((v : Int) - ((128 * 256 ^ (W - 1) : Nat) : Int)) - ((128 * 256 ^ (W - 1) : Nat) : Int)) = ((sgn v W : Nat) : Int)) ∧ (W = 8 → sgn v W = v) := by
  have e : 256 ^ W = 256 * 256 ^ (W - 1) := by rw [← Nat.pow_succ']; congr 1; omega
  refine ⟨fun h => ?_, fun h h' => ?_, fun h => ?_⟩
  · unfold sgn; rw [if_pos (by omega)]
  · have hp : (256 : Nat) ^ W ≤ 256 ^ 8 := Nat.pow_le_pow_right (by decide) h8
    have h3 : (256 : Nat) ^ 8 = 18446744073709551616 := by decide
    have h4 : (2 : Nat) ^ 64 = 18446744073709551616 := by decide
    unfold sgn
    rw [if_neg (by omega)]
    generalize 256 ^ (W - 1) = P at *
    rw [e] at hv hp ⊢
    simp only [IntKind.wrap, IntKind.bits, IntKind.signed]
    simp
    omega
  · subst h
    unfold sgn
    split
    · rfl
    · simp

set_option maxRecDepth 100000 in
set_option maxHeartbeats 1000000 in
theorem signed_any {w : World} (v W : Nat) (hW : 1 ≤ W) (h8 : W ≤ 8) (hv : v < 256 ^ W) :
    Calls Try.prog 74 #[.int .u64 (v : Int), .int .i64 (W : Int)] w fun e w' => e = .returned (.int .u64 (sgn v W : Int)) ∧ w = w' := by
  have HV := Lib.hid hv
  clear hv
  go_enter Try.func74, Try.ntmps74
  go_wp2_with fail
  go_loop [5, 6] (fun x i => ∃ j : Nat, 1 ≤ j ∧ j ≤ W ∧ i = .int .i64 (j : Int) ∧ x = .int .u64 ((128 * 256 ^ (j - 1) : Nat) : Int)) (fun _ i => W - (intOf i).toNat)
  case atStart => exact ⟨1, by omega, hW, rfl, rfl⟩
  case round =>
    obtain ⟨j, hj1, hj2, rfl, rfl⟩ := hrel
    by_cases hlt : j < W
    · have e1 : IntKind.u64.wrap (((128 * 256 ^ (j - 1) : Nat) : Int) * 256) = ((128 * 256 ^ ((j + 1) - 1) : Nat) : Int) := by
        have e : 256 ^ (j + 1 - 1) = 256 * 256 ^ (j - 1) := by rw [← Nat.pow_succ']; congr 1; omega
        have hp : (256 : Nat) ^ (j + 1 - 1) ≤ 256 ^ 7 := Nat.pow_le_pow_right (by decide) (by omega)
        have h3 : (256 : Nat) ^ 7 = 72057594037927936 := by decide
        rw [IntWalk.u64_in _ (by omega), e]
        push_cast
        omega
      obtain ⟨P, hP⟩ : ∃ P : Nat, P = 128 * 256 ^ (j - 1) := ⟨_, rfl⟩
      obtain ⟨P', hP'⟩ : ∃ P : Nat, P = 128 * 256 ^ ((j + 1) - 1) := ⟨_, rfl⟩
      have HP := Lib.hid hP'
      rw [← hP, ← hP'] at e1
      rw [← hP]
      clear hP hP'
      go_wp2_with fail
      go_round
      case rel => exact ⟨j + 1, by omega, by omega, by go_num, by rw [← HP.out]⟩
      case measure => simp [intOf]; omega
    · obtain rfl : j = W := by omega
      obtain ⟨s1, s2, s3⟩ := half_sgn v j hW h8 HV.out
      obtain ⟨P, hP⟩ : ∃ P : Nat, P = 128 * 256 ^ (j - 1) := ⟨_, rfl⟩
      rw [← hP] at s1 s2 ⊢
      clear hP
      by_cases hv : v < P
      · have HS := Lib.hid (s1 hv)
        clear s1 s2 s3
        go_wp2_with fail
        go_ret
        rw [HS.out]
        exact ⟨rfl, rfl⟩
      · by_cases h8' : j = 8
        · have HS := Lib.hid (s3 h8')
          clear s1 s2 s3
          subst h8'
          go_wp2_with fail
          go_ret
          rw [HS.out]
          exact ⟨rfl, rfl⟩
        · have e := s2 hv h8'
          have b8 : ((j : Int) == 8) = false := by simp; omega
          clear s1 s2 s3
          go_wp2_with fail
          go_ret
          exact ⟨rfl, rfl⟩

set_option maxRecDepth 100000 in
theorem copied_any {w : World} {A : Option Addr} {c : Nat} {l : List UInt8} (hr : RdT w A l) (hl : l.length ≤ 140737488355328) :
    Calls Try.prog 14 #[.slice A l.length c] w fun e w' => ∃ A' c', e = .returned (.slice A' l.length c') ∧ w'.ownsRow w.heap.size 5 1 (.slice A' l.length c') l.length (bvs l) ∧ Mod no w w' := by
  obtain ⟨i0, hi, hz0, hz1, hz2⟩ := info_parts u8_info
  have HR := Lib.hid hr
  have HL := Lib.hid hl
  clear hr hl
  go_enter Try.func14, Try.ntmps14
  go_wp2_with (
    at_builtin
    go_must (refine wpList_append _ rfl (.tmp 4) (.tmp 5) _ rfl w.heap.size 5 i0 (.int .u8 0) 1 1 Try.underlying23 hi hz0 hz1 hz2 rfl (by decide) (.slice none 0 0) 0 [] rfl ⟨rfl, .inl ⟨rfl, rfl⟩⟩ A l.length c (bvs l) rfl (HR.out.rds) (bvs_one l) (by have := HL.out; simp only [maxLen]; omega) (by have := HL.out; omega) (Nat.le_refl _) ?_)
    intro v1 w1 hown hg hat hnn
    have M : Mod no w w1 := Mod.of_grown hg (fun k hk e => by simp [Value.ownBlock] at e)
    simp only [Nat.zero_add, List.nil_append] at hown
    obtain ⟨A', c', rfl⟩ := own_form hown
    have HO := Lib.hid hown
    have HM := Lib.hid M
    clear hown hg hat hnn M)
  go_ret
  exact ⟨A', c', rfl, HO.out, HM.out⟩

end Go.Proofs.Ytpfkcejndjnbhaa.RD
