/- The document's taker: a number of a fixed width. -/
import Derived.Test.YtpfkcejndjnbhaaRefN
namespace Go.Proofs.Ytpfkcejndjnbhaa.RD
open Go.RowKit Mem WM
open Go.Proofs.Ytpfkcejndjnbhaa.WD (RdT RdB u8_info conv_string own_lower own_mod conv_range fixA_lt raw_len key_size mod_sets)
set_option linter.unusedVariables false
set_option linter.unusedSimpArgs false

theorem le_drop (X : List UInt8) (j : Nat) (h : j < X.length) : le (X.drop j) = X[j].toNat + 256 * le (X.drop (j + 1)) := by
  rw [List.drop_eq_getElem_cons h]; rfl
theorem le_drop_lt (X : List UInt8) (j : Nat) (h : X.length ≤ 8) : le (X.drop j) < 18446744073709551616 := by
  have h1 := WB.le_lt (X.drop j)
  have h2 : 256 ^ (X.drop j).length ≤ 256 ^ 8 := Nat.pow_le_pow_right (by decide) (by simp; omega)
  have h3 : (256 : Nat) ^ 8 = 18446744073709551616 := by decide
  omega

set_option maxRecDepth 100000 in
set_option maxHeartbeats 1000000 in
theorem rfixed_any {w : World} {g gb : Nat} {bs : List UInt8} {s : St} (W : Nat) (hW : W ≤ 8) (h : RAt w g gb bs s) (hb : bs.length ≤ 70368744177664) :
    Calls Try.prog 73 #[.pointer (some ⟨g, 0, none⟩), .int .i64 (W : Int)] w fun e w' =>
      e = .returned (.int .u64 ((fixA bs s W).2 : Int)) ∧ RAt w' g gb bs (fixA bs s W).1 ∧ Mod (one g) w w' := by
  have H := Lib.hid h
  have HB := Lib.hid hb
  have hlen : (rawA bs s W).2.length ≤ 8 := Nat.le_trans (raw_len bs s W) hW
  clear h hb
  show Calls Try.prog 73 #[.pointer (some ⟨g, 0, none⟩), .int .i64 (W : Int)] w fun e w' =>
      e = .returned (.int .u64 (le (rawA bs s W).2 : Int)) ∧ RAt w' g gb bs (rawA bs s W).1 ∧ Mod (one g) w w'
  go_enter Try.func73, Try.ntmps73
  go_wp2_with fail
  refine (rraw_any (W : Int) H.out HB.out).mono ?_
  rintro e w1 ⟨A1, k1, rfl, hown, D1, M1⟩
  have HD := Lib.hid D1
  have hrd := RdT.of_own hown
  have HRD := Lib.hid hrd
  clear D1 hown hrd
  obtain ⟨X, hX⟩ : ∃ X, X = (rawA bs s W).2 := ⟨_, rfl⟩
  rw [← hX] at hlen HRD ⊢
  have HX := Lib.hid hX
  clear hX
  go_wp2_with fail
  go_loop [6, 7] (fun v i => ∃ j : Nat, j ≤ X.length ∧ i = .int .i64 ((j : Int) - 1) ∧ v = .int .u64 (le (X.drop j) : Int)) (fun _ i => (intOf i + 1).toNat)
  case atStart => exact ⟨X.length, Nat.le_refl _, by go_num, by simp [le]⟩
  case round =>
    obtain ⟨j, hj, rfl, rfl⟩ := hrel
    by_cases h0 : j = 0
    · subst h0
      go_wp2_with fail
      go_ret
      exact ⟨by rw [← HX.out]; rfl, HD.out, M1⟩
    · obtain ⟨t, rfl⟩ : ∃ t, j = t + 1 := ⟨j - 1, by omega⟩
      have ei : ((t + 1 : Nat) : Int) - 1 = (t : Int) := by omega
      rw [ei]
      obtain ⟨g3, o3, cs3, rfl, B3, C3⟩ := HRD.out (by rintro rfl; simp at hj)
      have ct : w1.cell? ⟨g3, o3 + t, none⟩ = some (.int .u8 (X[t].toNat : Int)) := by rw [B3.cell, C3 t (by omega), bvs_get X t (by omega)]
      have hd := le_drop X t (by omega)
      have hl0 := le_drop_lt X t hlen
      have hbb := byte_lt X[t]
      obtain ⟨hb0, hb1⟩ := hbb
      generalize X[t].toNat = b at *
      generalize hL : le (X.drop (t + 1)) = L at *
      have F1 : IntKind.u64.wrap ((L : Int) * 256) = (L : Int) * 256 := IntWalk.u64_in _ (by omega)
      have F2 : IntKind.u64.wrap ((L : Int) * 256 + (b : Int)) = (L : Int) * 256 + (b : Int) := IntWalk.u64_in _ (by omega)
      have HC := Lib.hid C3
      have HDD := Lib.hid hd
      have HLL := Lib.hid hL
      clear C3 hd hL
      go_wp2_with fail
      go_round
      case rel => exact ⟨t, by omega, by go_num, by rw [HDD.out]; congr 1; omega⟩
      case measure => simp [intOf]

end Go.Proofs.Ytpfkcejndjnbhaa.RD
