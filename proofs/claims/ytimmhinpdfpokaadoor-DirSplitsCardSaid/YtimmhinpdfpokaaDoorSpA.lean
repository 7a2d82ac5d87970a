/- The document's Letters: a letter's first byte, its bounds. -/
import Derived.Test.YtimmhinpdfpokaaDoorChecked
import Derived.Test.YtimmhinpdfpokaaDoorMem
import Derived.Test.YtimmhinpdfpokaaDoorSpM
import Derived.WalkKit
import Derived.WalkSpells
import Derived.Lib.Hide
namespace Go.Proofs.YtimmhinpdfpokaaDoor.SP
open Go.RowKit Mem
set_option linter.unusedVariables false
set_option linter.unusedSimpArgs false

def moreI (c : Nat) : Int := match moreN c with | none => -1 | some n => (n : Int)
set_option maxRecDepth 100000 in
theorem more_r {w : World} {c : Nat} (hc : c < 256) : Calls Tryd.prog 17 #[.int .u8 (c : Int)] w fun e w' => e = .returned (.int .i64 (moreI c)) ∧ w = w' := by
  by_cases h1 : c < 128
  · have e : moreI c = 0 := by unfold moreI moreN; rw [if_pos h1]; rfl
    have g1 : (c : Int) < 128 := by omega
    rw [e]
    go_enter Tryd.func17, Tryd.ntmps17
    go_wp2_with fail
    go_ret
    exact ⟨rfl, rfl⟩
  have g1 : ¬ (c : Int) < 128 := by omega
  by_cases h2 : 194 ≤ c ∧ c ≤ 223
  · have e : moreI c = 1 := by unfold moreI moreN; rw [if_neg h1, if_pos h2]; rfl
    have g2 : (194 : Int) ≤ (c : Int) := by omega
    have g3 : (c : Int) ≤ 223 := by omega
    rw [e]
    go_enter Tryd.func17, Tryd.ntmps17
    go_wp2_with fail
    go_ret
    exact ⟨rfl, rfl⟩
  by_cases h3 : 224 ≤ c ∧ c ≤ 239
  · have e : moreI c = 2 := by unfold moreI moreN; rw [if_neg h1, if_neg h2, if_pos h3]; rfl
    have g2 : (194 : Int) ≤ (c : Int) := by omega
    have g3 : ¬ (c : Int) ≤ 223 := by omega
    have g4 : (224 : Int) ≤ (c : Int) := by omega
    have g5 : (c : Int) ≤ 239 := by omega
    rw [e]
    go_enter Tryd.func17, Tryd.ntmps17
    go_wp2_with fail
    go_ret
    exact ⟨rfl, rfl⟩
  by_cases h4 : 240 ≤ c ∧ c ≤ 244
  · have e : moreI c = 3 := by unfold moreI moreN; rw [if_neg h1, if_neg h2, if_neg h3, if_pos h4]; rfl
    have g2 : (194 : Int) ≤ (c : Int) := by omega
    have g3 : ¬ (c : Int) ≤ 223 := by omega
    have g4 : (224 : Int) ≤ (c : Int) := by omega
    have g5 : ¬ (c : Int) ≤ 239 := by omega
    have g6 : (240 : Int) ≤ (c : Int) := by omega
    have g7 : (c : Int) ≤ 244 := by omega
    rw [e]
    go_enter Tryd.func17, Tryd.ntmps17
    go_wp2_with fail
    go_ret
    exact ⟨rfl, rfl⟩
  have e : moreI c = -1 := by unfold moreI moreN; rw [if_neg h1, if_neg h2, if_neg h3, if_neg h4]
  rw [e]
  by_cases h5 : c < 194
  · have g2 : ¬ (194 : Int) ≤ (c : Int) := by omega
    have g3 : ¬ (224 : Int) ≤ (c : Int) := by omega
    have g4 : ¬ (240 : Int) ≤ (c : Int) := by omega
    go_enter Tryd.func17, Tryd.ntmps17
    go_wp2_with fail
    go_ret
    exact ⟨rfl, rfl⟩
  · have g2 : (194 : Int) ≤ (c : Int) := by omega
    have g3 : ¬ (c : Int) ≤ 223 := by omega
    have g4 : (224 : Int) ≤ (c : Int) := by omega
    have g5 : ¬ (c : Int) ≤ 239 := by omega
    have g6 : (240 : Int) ≤ (c : Int) := by omega
    have g7 : ¬ (c : Int) ≤ 244 := by omega
    go_enter Tryd.func17, Tryd.ntmps17
    go_wp2_with fail
    go_ret
    exact ⟨rfl, rfl⟩
set_option maxRecDepth 100000 in
theorem lowest_r {w : World} {c : Nat} : Calls Tryd.prog 18 #[.int .u8 (c : Int)] w fun e w' => e = .returned (.int .u8 (lowN c : Int)) ∧ w = w' := by
  by_cases h1 : c = 224
  · subst h1
    go_enter Tryd.func18, Tryd.ntmps18
    go_wp2_with fail
    go_ret
    exact ⟨rfl, rfl⟩
  by_cases h2 : c = 240
  · subst h2
    go_enter Tryd.func18, Tryd.ntmps18
    go_wp2_with fail
    go_ret
    exact ⟨rfl, rfl⟩
  have e : lowN c = 128 := by unfold lowN; rw [if_neg h1, if_neg h2]
  have g1 : ¬ (c : Int) = 224 := by omega
  have g2 : ¬ (c : Int) = 240 := by omega
  rw [e]
  clear h1 h2
  go_enter Tryd.func18, Tryd.ntmps18
  go_wp2_with fail
  go_ret
  exact ⟨rfl, rfl⟩
set_option maxRecDepth 100000 in
theorem highest_r {w : World} {c : Nat} : Calls Tryd.prog 19 #[.int .u8 (c : Int)] w fun e w' => e = .returned (.int .u8 (highN c : Int)) ∧ w = w' := by
  by_cases h1 : c = 237
  · subst h1
    go_enter Tryd.func19, Tryd.ntmps19
    go_wp2_with fail
    go_ret
    exact ⟨rfl, rfl⟩
  by_cases h2 : c = 244
  · subst h2
    go_enter Tryd.func19, Tryd.ntmps19
    go_wp2_with fail
    go_ret
    exact ⟨rfl, rfl⟩
  have e : highN c = 191 := by unfold highN; rw [if_neg h1, if_neg h2]
  have g1 : ¬ (c : Int) = 237 := by omega
  have g2 : ¬ (c : Int) = 244 := by omega
  rw [e]
  clear h1 h2
  go_enter Tryd.func19, Tryd.ntmps19
  go_wp2_with fail
  go_ret
  exact ⟨rfl, rfl⟩
end Go.Proofs.YtimmhinpdfpokaaDoor.SP
