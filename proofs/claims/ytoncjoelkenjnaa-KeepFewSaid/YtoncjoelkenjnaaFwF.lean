/- KeepFew in plain Lean: the newest is the head of the order. No program. -/
import Derived.Test.YtoncjoelkenjnaaFwD
namespace Go.Proofs.Ytoncjoelkenjnaa.PL
open Go.RowKit Mem Go.Proofs.Ytoncjoelkenjnaa.Days Go.Proofs.Ytoncjoelkenjnaa.SS
set_option linter.unusedVariables false
set_option linter.unusedSimpArgs false

theorem head_new {tm : Nat → Int} {M : List Int} {n nw : Nat} (hs : Sd (keyT tm) M (ints n)) (hn : nw < n) (h1 : ∀ j, j < n → tm j ≤ tm nw) (h2 : ∀ j, j < nw → tm j < tm nw) : ∃ M', M = (nw : Int) :: M' := by
  have hm : (nw : Int) ∈ M := hs.perm.mem_iff.2 (by unfold ints; exact List.mem_map.2 ⟨nw, List.mem_range.2 hn, rfl⟩)
  cases hM : M with
  | nil => rw [hM] at hm; cases hm
  | cons z M' =>
    have hz : z ∈ ints n := hs.perm.mem_iff.1 (by rw [hM]; simp)
    unfold ints at hz
    obtain ⟨j, hj, rfl⟩ := List.mem_map.1 hz
    have hj := List.mem_range.1 hj
    rw [hM] at hm
    rcases List.mem_cons.1 hm with hm | hm
    · exact ⟨M', by rw [hm]⟩
    · have hsr := hs.2
      rw [hM] at hsr
      have hr := (List.pairwise_cons.1 hsr).1 _ hm
      exfalso
      have a1 := h1 j hj
      rcases hr with hr | ⟨hr, hr2⟩
      · unfold keyT at hr
        simp only [Int.toNat_natCast] at hr
        omega
      · unfold keyT at hr
        simp only [Int.toNat_natCast] at hr
        have := h2 j (by omega)
        omega
/-- What the loop for the newest knows. -/
def Nw (tm : Nat → Int) (i nw : Nat) : Prop := (∀ j, j < i → tm j ≤ tm nw) ∧ (∀ j, j < nw → tm j < tm nw) ∧ (nw < i ∨ (i = 0 ∧ nw = 0))
theorem nw_step {tm : Nat → Int} {i nw : Nat} (h : Nw tm i nw) (hi : i ≠ 0 ∨ True) : Nw tm (i + 1) (if tm nw < tm i then i else nw) := by
  obtain ⟨a, b, c⟩ := h
  split
  · next hlt =>
    refine ⟨fun j hj => ?_, fun j hj => ?_, .inl (by omega)⟩
    · by_cases hji : j = i
      · rw [hji]; exact Int.le_refl _
      · have := a j (by omega); omega
    · have := a j hj; omega
  · next hge =>
    refine ⟨fun j hj => ?_, b, .inl (by omega)⟩
    by_cases hji : j = i
    · rw [hji]; omega
    · exact a j (by omega)
end Go.Proofs.Ytoncjoelkenjnaa.PL
