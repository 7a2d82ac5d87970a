/- The program's taker: where it stands, what is left, its end. -/
import Derived.Test.YtpfkcejndjnbhaaWireE
namespace Go.Proofs.Ytpfkcejndjnbhaa.WD
open Go.RowKit Mem WM
set_option linter.unusedVariables false
set_option linter.unusedSimpArgs false

/-- The error that End answers. -/
def endV : Option (Nat × Nat) → Value
  | none => .nilIface
  | some (a, c) => .iface 58 (.agg #[.int .i64 (a : Int), .int .i64 (c : Int)])

theorem at_any {w : World} {g gb : Nat} {bs : List UInt8} {s : St} (h : DecAt w g gb bs s) :
    Calls Try.prog 32 #[.pointer (some ⟨g, 0, none⟩)] w fun e w' => e = .returned (.int .i64 (placeA s : Int)) ∧ w = w' := by
  cases s with
  | dead a e =>
    obtain ⟨A, c, p, k, hb, hk, h1⟩ := h
    have c2 := hb.cell 2
    have k0 := hk.cell 0
    simp at c2 k0
    go_enter Try.func32, Try.ntmps32
    go_wp2_with fail
    go_ret
    exact ⟨rfl, rfl⟩
  | live p =>
    obtain ⟨A, c, hb, h1, h2, h3, h4⟩ := h
    have c1 := hb.cell 1
    have c2 := hb.cell 2
    simp at c1 c2
    clear h3
    go_enter Try.func32, Try.ntmps32
    go_wp2_with fail
    go_ret
    exact ⟨rfl, rfl⟩

theorem left_any {w : World} {g gb : Nat} {bs : List UInt8} {s : St} (h : DecAt w g gb bs s) :
    Calls Try.prog 30 #[.pointer (some ⟨g, 0, none⟩)] w fun e w' => e = .returned (.int .i64 (leftA bs s : Int)) ∧ ∃ q, w' = w.drewN q := by
  cases s with
  | dead a e =>
    have H := Lib.hid h
    clear h
    go_enter Try.func30, Try.ntmps30
    go_wp2_with (go_at_call 51; refine (over_dead H.out).mono ?_; rintro e w' ⟨rfl, rfl⟩)
    go_ret
    exact ⟨rfl, 0, rfl⟩
  | live p =>
    have H := Lib.hid h
    obtain ⟨A, c, hb, h1, h2, h3, h4⟩ := h
    have c0 := hb.cell 0
    have c1 := hb.cell 1
    simp at c0 c1
    clear h3
    have hL := h2
    unfold maxLen at hL
    have e1 : IntKind.i64.wrap ((bs.length : Int) - (p : Int)) = (bs.length : Int) - (p : Int) := IntWalk.i64_in _ (by omega)
    go_enter Try.func30, Try.ntmps30
    go_wp2_with (go_at_call 51; refine (over_live H.out).mono ?_; rintro e w' ⟨rfl, rfl⟩)
    go_quiet (fail)
    go_wp2_with fail
    go_ret
    refine ⟨?_, _, rfl⟩
    show Ending.returned (.int .i64 ((bs.length : Int) - (p : Int))) = _
    rw [show (bs.length : Int) - (p : Int) = ((leftA bs (.live p) : Nat) : Int) from by simp only [leftA]; omega]

theorem end_any {w : World} {g gb : Nat} {bs : List UInt8} {s : St} (h : DecAt w g gb bs s) :
    Calls Try.prog 24 #[.pointer (some ⟨g, 0, none⟩)] w fun e w' => e = .returned (endV (endA bs s)) ∧ ∃ q, w' = w.drewN q := by
  cases s with
  | dead a e =>
    obtain ⟨A, c, p, k, hb, hk, h1⟩ := h
    have c2 := hb.cell 2
    have k0 := hk.cell 0
    have k1 := hk.cell 1
    simp at c2 k0 k1
    go_enter Try.func24, Try.ntmps24
    go_wp2_with fail
    go_ret
    exact ⟨rfl, 0, rfl⟩
  | live p =>
    obtain ⟨A, c, hb, h1, h2, h3, h4⟩ := h
    have c0 := hb.cell 0
    have c1 := hb.cell 1
    have c2 := hb.cell 2
    simp at c0 c1 c2
    clear h3
    by_cases hp : p < bs.length
    · have hp' : (p : Int) < (bs.length : Int) := by omega
      have he : endA bs (.live p) = some (p, 13) := by simp only [endA]; rw [if_pos hp]
      have HE := Lib.hid he
      clear he
      go_enter Try.func24, Try.ntmps24
      go_wp2_with fail
      go_quiet (fail)
      go_wp2_with fail
      go_ret
      rw [HE.out]
      exact ⟨rfl, _, rfl⟩
    · have hp' : decide ((p : Int) < (bs.length : Int)) = false := by simp; omega
      have he : endA bs (.live p) = none := by simp only [endA]; rw [if_neg hp]
      have HE := Lib.hid he
      clear he
      go_enter Try.func24, Try.ntmps24
      go_wp2_with fail
      go_quiet (fail)
      go_wp2_with fail
      go_ret
      rw [HE.out]
      exact ⟨rfl, _, rfl⟩

end Go.Proofs.Ytpfkcejndjnbhaa.WD
