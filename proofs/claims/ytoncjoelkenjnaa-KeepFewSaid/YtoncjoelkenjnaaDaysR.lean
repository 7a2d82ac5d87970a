/- The walk of the reference's DayOf: year by year, month by month. -/
import Derived.Test.YtoncjoelkenjnaaDaysW
namespace Go.Proofs.Ytoncjoelkenjnaa.Days
open Go.RowKit
set_option linter.unusedVariables false
set_option linter.unusedSimpArgs false

set_option maxHeartbeats 1000000 in
theorem refDayOf_yes (t : Int) (w : World) (h1 : -62135596800 ≤ t) (h2 : t ≤ 253402300799) :
    Calls Try.prog 18 #[.int .i64 t] w fun e w' => e = .returned (.tuple #[.agg #[.int .i16 (Cal.dyear (t / 86400)), .int .i8 (Cal.dmonth (t / 86400)), .int .i8 (Cal.dday (t / 86400)), .int .i8 ((t / 86400 + 3) % 7)], .int .i64 0]) ∧ Below w.heap.size w w' := by
  have hN' : (t + 62135596800) / 86400 = t / 86400 + 719162 := by omega
  obtain ⟨n, hn⟩ : ∃ n, n = t / 86400 := ⟨_, rfl⟩
  have hd : 0 ≤ n + 719162 ∧ n + 719162 ≤ 3652058 := by omega
  obtain ⟨hd1, hd2⟩ := hd
  rw [← hn] at hN' ⊢
  have Hn := Lib.hid hn
  clear hn
  have hg := Cal.upTo_guess (n + 719162) hd1
  have b1 : decide (t < -62135596800) = false := by simpa using h1
  have b2 : decide (253402300799 < t) = false := by simpa using h2
  go_enter Try.func18, Try.ntmps18
  go_wp2_with (first
    | (go_at_call 34; refine (down_any _ _ _ (by omega) (by omega) (by omega)).mono ?_; rintro e w' ⟨rfl, rfl⟩))
  go_loop [6] (fun v => ∃ y : Int, 1 ≤ y ∧ y ≤ 9999 ∧ Cal.upTo y ≤ n + 719162 ∧ v = .int .i64 y) (fun v => (9999 - intOf v).toNat)
  case atStart => exact ⟨_, by omega, by omega, hg, rfl⟩
  case round =>
    obtain ⟨y, hy1, hy2, hy3, rfl⟩ := hrel
    clear hg
    by_cases hle : y < 9999 ∧ Cal.upTo (y + 1) ≤ n + 719162
    · obtain ⟨hlt, hle⟩ := hle
      go_wp2_with (first
        | (go_at_call 31; refine (upTo_any _ _ (by omega) (by omega)).mono ?_; rintro e w' ⟨rfl, rfl⟩))
      go_round
      case rel => exact ⟨y + 1, by omega, by omega, hle, rfl⟩
      case measure => simp [intOf]; omega
    · have hN : n + 719162 < Cal.upTo (y + 1) := by
        by_cases hlt : y < 9999
        · omega
        · obtain rfl : y = 9999 := by omega
          have : Cal.upTo (9999 + 1) = 3652059 := by decide
          omega
      have hub := Cal.upTo_bd y (by omega) (by omega)
      have hsc := Cal.upTo_succ y
      have HSC := Lib.hid hsc
      clear hsc hle
      have hlp := Cal.lp_01 y
      by_cases hlt : y < 9999
      all_goals
        go_wp2_with (first
          | (go_at_call 31; refine (upTo_any _ _ (by omega) (by omega)).mono ?_; rintro e w' ⟨rfl, rfl⟩))
        go_loop [4, 7] (fun v i => ∃ k : Int, 1 ≤ k ∧ k ≤ 12 ∧ Cal.cum y k ≤ n + 719162 - Cal.upTo y ∧ i = .int .i64 k ∧ v = .int .i64 (n + 719162 - Cal.upTo y - Cal.cum y k)) (fun _ i => (12 - intOf i).toNat)
        case atStart => exact ⟨1, by omega, by omega, by simp [Cal.cum]; omega, rfl, by simp [Cal.cum]⟩
        case round =>
          obtain ⟨k, hk1, hk2, hk3, rfl, rfl⟩ := hrel
          have hmb := Cal.mlen_bd y k
          have hcb := Cal.cum_bd y k (by omega) (by omega)
          have hcs := Lib.hid (Cal.cum_succ y k (by omega) (by omega))
          by_cases hge : Cal.mlen y k ≤ n + 719162 - Cal.upTo y - Cal.cum y k
          · have hk12 : k < 12 := by
              by_cases e : k = 12
              · subst e
                have h13 := Cal.cum_13 y
                have h1 := hcs.out
                have h2 := HSC.out
                rw [show ((12 : Int) + 1) = 13 by rfl] at h1
                omega
              · omega
            go_wp2_with (go_at_call 30; refine (month_any _ _ _ (by omega) (by omega) (by omega) (by omega)).mono ?_; rintro e w1 ⟨rfl, rfl⟩)
            go_round
            case rel => exact ⟨k + 1, by omega, by omega, by rw [hcs.out]; omega, rfl, by rw [hcs.out]; go_num⟩
            case measure => simp [intOf]; omega
          · have hv : Cal.Valid y k (n + 719162 - Cal.upTo y - Cal.cum y k + 1) := ⟨hk1, hk2, by omega, by omega⟩
            have HE := Lib.hid (Cal.day_of_count y k _ n hv (by unfold Cal.count; omega))
            have HM : Hid ((n + 3) % 7 = (n + 719162) % 7) := Lib.hid (by omega)
            clear hv
            go_wp2_with (go_at_call 30; refine (month_any _ _ _ (by omega) (by omega) (by omega) (by omega)).mono ?_; rintro e w1 ⟨rfl, rfl⟩)
            refine bodyPost_ret (v := .tuple #[.agg #[.int .i16 y, .int .i8 k, .int .i8 (n + 719162 - Cal.upTo y - Cal.cum y k + 1), .int .i8 ((n + 719162) % 7)], .int .i64 0]) (by simp [results, Try.results18, go_sem]) rfl ⟨?_, (Below.refl _ _).alloc (Nat.le_refl _) _⟩
            rw [HE.out.1, HE.out.2.1, HE.out.2.2, HM.out]

end Go.Proofs.Ytoncjoelkenjnaa.Days
