/- Blocks of a row, each sorted in itself: what slices.stableCmpFunc holds by turns. Plain Lean, no program. -/
import Derived.Test.YtoncjoelkenjnaaSsM
namespace Go.Proofs.Ytoncjoelkenjnaa.SS
set_option linter.unusedVariables false
set_option linter.unusedSimpArgs false

/-- M is the row A, sorted. -/
structure Sd (K : Int → Int) (M A : List Int) : Prop where
  perm : M.Perm A
  srt : Srt K M
theorem Sd.len {K : Int → Int} {M A : List Int} (h : Sd K M A) : M.length = A.length := h.perm.length_eq
/-- Blocks of s each. -/
inductive BlF (K : Int → Int) (s : Nat) : List Int → List Int → Prop
  | nil : BlF K s [] []
  | cons {M A Mx X : List Int} : A.length = s → Sd K M A → BlF K s Mx X → BlF K s (M ++ Mx) (A ++ X)
theorem BlF.len {K : Int → Int} {s : Nat} {Mx X : List Int} (h : BlF K s Mx X) : Mx.length = X.length := by
  induction h with
  | nil => rfl
  | cons _ h2 _ ih => rw [List.length_append, List.length_append, h2.len, ih]
theorem BlF.snoc {K : Int → Int} {s : Nat} {Mx X M A : List Int} (h : BlF K s Mx X) (h1 : A.length = s) (h2 : Sd K M A) : BlF K s (Mx ++ M) (X ++ A) := by
  induction h with
  | nil => simpa using BlF.cons h1 h2 .nil
  | cons a b _ ih => rw [List.append_assoc, List.append_assoc]; exact .cons a b ih
/-- Blocks of s each, and one at the end that is shorter. -/
def Bls (K : Int → Int) (s : Nat) (D L : List Int) : Prop := ∃ Mx X M A, D = Mx ++ M ∧ L = X ++ A ∧ BlF K s Mx X ∧ A.length < s ∧ Sd K M A
theorem Sd.nil {K : Int → Int} : Sd K [] [] := ⟨List.Perm.refl _, List.Pairwise.nil⟩
theorem Bls.len {K : Int → Int} {s : Nat} {D L : List Int} (h : Bls K s D L) : D.length = L.length := by
  obtain ⟨Mx, X, M, A, rfl, rfl, h1, h2, h3⟩ := h
  rw [List.length_append, List.length_append, h1.len, h3.len]
/-- At least two blocks are left. -/
theorem Bls.two {K : Int → Int} {s : Nat} {D L : List Int} (h : Bls K s D L) (hl : 2 * s ≤ L.length) : ∃ M1 A1 M2 A2 D' L', D = M1 ++ (M2 ++ D') ∧ L = A1 ++ (A2 ++ L') ∧ A1.length = s ∧ A2.length = s ∧ Sd K M1 A1 ∧ Sd K M2 A2 ∧ Bls K s D' L' := by
  obtain ⟨Mx, X, M, A, rfl, rfl, h1, h2, h3⟩ := h
  rw [List.length_append] at hl
  cases h1 with
  | nil => simp at hl; omega
  | cons a1 b1 c1 =>
    cases c1 with
    | nil => simp at hl; omega
    | cons a2 b2 c2 =>
      exact ⟨_, _, _, _, _, _, by simp only [List.append_assoc], by simp only [List.append_assoc], a1, a2, b1, b2, ⟨_, _, M, A, rfl, rfl, c2, h2, h3⟩⟩
/-- One block and something behind it. -/
theorem Bls.one {K : Int → Int} {s : Nat} {D L : List Int} (h : Bls K s D L) (hl : s < L.length) (hl2 : L.length < 2 * s) : ∃ M1 A1 M2 A2, D = M1 ++ M2 ∧ L = A1 ++ A2 ∧ A1.length = s ∧ 0 < A2.length ∧ Sd K M1 A1 ∧ Sd K M2 A2 := by
  obtain ⟨Mx, X, M, A, rfl, rfl, h1, h2, h3⟩ := h
  rw [List.length_append] at hl hl2
  cases h1 with
  | nil => simp at hl; omega
  | cons a1 b1 c1 =>
    cases c1 with
    | nil => exact ⟨_, _, _, _, by simp only [List.append_nil], by simp only [List.append_nil], a1, by simp at hl; omega, b1, h3⟩
    | cons a2 b2 c2 => simp only [List.length_append] at hl2; omega
/-- No more than a block. -/
theorem Bls.few {K : Int → Int} {s : Nat} {D L : List Int} (h : Bls K s D L) (hl : L.length ≤ s) : Sd K D L := by
  obtain ⟨Mx, X, M, A, rfl, rfl, h1, h2, h3⟩ := h
  rw [List.length_append] at hl
  cases h1 with
  | nil => exact h3
  | cons a1 b1 c1 =>
    have hA : A = [] := List.eq_nil_of_length_eq_zero (by simp at hl; omega)
    subst hA
    have hM : M = [] := List.eq_nil_of_length_eq_zero (by rw [h3.len]; rfl)
    subst hM
    cases c1 with
    | nil => simpa using b1
    | cons a2 b2 c2 =>
      simp only [List.length_append, List.length_nil] at hl
      have : s = 0 := by omega
      simp at h2
      omega
theorem BlF.end_ {K : Int → Int} {s : Nat} {Mx X M A : List Int} (h : BlF K s Mx X) (h1 : A.length < s) (h2 : Sd K M A) : Bls K s (Mx ++ M) (X ++ A) := ⟨Mx, X, M, A, rfl, rfl, h, h1, h2⟩
end Go.Proofs.Ytoncjoelkenjnaa.SS
