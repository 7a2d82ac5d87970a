/- The document's taker: where it stands, what is left, its end. -/
import Derived.Test.YtpfkcejndjnbhaaRefV
namespace Go.Proofs.Ytpfkcejndjnbhaa.RD
open Go.RowKit Mem WM
set_option linter.unusedVariables false
set_option linter.unusedSimpArgs false

theorem rplace_any {w : World} {g gb : Nat} {bs : List UInt8} {s : St} (h : RAt w g gb bs s) :
    Calls Try.prog 55 #[.pointer (some ⟨g, 0, none⟩)] w fun e w' => e = .returned (.int .i64 (placeA s : Int)) ∧ w = w' := by
  cases s with
  | dead a e =>
    obtain ⟨A, c, p, hb, h1⟩ := h
    have c2 := hb.cell 2
    have c3 := hb.cell 3
    simp at c2 c3
    go_enter Try.func55, Try.ntmps55
    go_wp2_with fail
    go_ret
    exact ⟨rfl, rfl⟩
  | live p =>
    obtain ⟨A, c, hb, h1, h2, h3, h4⟩ := h
    have c1 := hb.cell 1
    have c2 := hb.cell 2
    simp at c1 c2
    clear h3
    go_enter Try.func55, Try.ntmps55
    go_wp2_with fail
    go_ret
    exact ⟨rfl, rfl⟩

set_option maxRecDepth 100000 in
theorem rleft_any {w : World} {g gb : Nat} {bs : List UInt8} {s : St} (h : RAt w g gb bs s) :
    Calls Try.prog 56 #[.pointer (some ⟨g, 0, none⟩)] w fun e w' => e = .returned (.int .i64 (leftA bs s : Int)) ∧ ∃ q, w' = w.drewN q := by
  cases s with
  | dead a e =>
    obtain ⟨A, c, p, hb, h1⟩ := h
    have c2 := hb.cell 2
    simp at c2
    go_enter Try.func56, Try.ntmps56
    go_wp2_with fail
    go_ret
    exact ⟨rfl, 0, rfl⟩
  | live p =>
    obtain ⟨A, c, hb, h1, h2, h3, h4⟩ := h
    have c0 := hb.cell 0
    have c1 := hb.cell 1
    have c2 := hb.cell 2
    simp at c0 c1 c2
    clear h3
    have hL := h2
    unfold maxLen at hL
    have e1 : IntKind.i64.wrap ((bs.length : Int) - (p : Int)) = (bs.length : Int) - (p : Int) := IntWalk.i64_in _ (by omega)
    go_enter Try.func56, Try.ntmps56
    go_wp2_with fail
    go_quiet (fail)
    go_wp2_with fail
    go_ret
    refine ⟨?_, _, rfl⟩
    show Ending.returned (.int .i64 ((bs.length : Int) - (p : Int))) = _
    rw [show (bs.length : Int) - (p : Int) = ((leftA bs (.live p) : Nat) : Int) from by simp only [leftA]; omega]

/-- End's two answers. -/
def rendV : Option (Nat × Nat) → Value
  | none => .tuple #[.int .i64 0, .int .i64 0]
  | some (a, c) => .tuple #[.int .i64 (a : Int), .int .i64 (c : Int)]

set_option maxRecDepth 100000 in
theorem rend_any {w : World} {g gb : Nat} {bs : List UInt8} {s : St} (h : RAt w g gb bs s) :
    Calls Try.prog 84 #[.pointer (some ⟨g, 0, none⟩)] w fun e w' => e = .returned (rendV (endA bs s)) ∧ ∃ q, w' = w.drewN q := by
  cases s with
  | dead a e =>
    obtain ⟨A, c, p, hb, h1⟩ := h
    have c2 := hb.cell 2
    have c3 := hb.cell 3
    have c4 := hb.cell 4
    simp at c2 c3 c4
    go_enter Try.func84, Try.ntmps84
    go_wp2_with fail
    first
      | go_ret2
      | (go_quiet (fail); go_wp2_with fail; go_ret2)
    exact ⟨rfl, _, rfl⟩
  | live p =>
    obtain ⟨A, c, hb, h1, h2, h3, h4⟩ := h
    have c0 := hb.cell 0
    have c1 := hb.cell 1
    have c2 := hb.cell 2
    simp at c0 c1 c2
    clear h3
    by_cases hp : p < bs.length
    · have hp' : (p : Int) < (bs.length : Int) := by omega
      have he : endA bs (.live p) = some (p, 13) := by simp only [endA]; rw [if_pos hp]
      have HE := Lib.hid he
      clear he
      go_enter Try.func84, Try.ntmps84
      go_wp2_with fail
      go_quiet (fail)
      go_wp2_with fail

      go_ret2
      rw [HE.out]
      exact ⟨rfl, _, rfl⟩
    · have hp' : decide ((p : Int) < (bs.length : Int)) = false := by simp; omega
      have he : endA bs (.live p) = none := by simp only [endA]; rw [if_neg hp]
      have HE := Lib.hid he
      clear he
      go_enter Try.func84, Try.ntmps84
      go_wp2_with fail
      go_quiet (fail)
      go_wp2_with fail
      go_ret2
      rw [HE.out]
      exact ⟨rfl, _, rfl⟩

end Go.Proofs.Ytpfkcejndjnbhaa.RD
