/- What a name is: the program's way (no letter that is none) and the document's (Letters), in plain Lean. -/
import Derived.Lib.ValidLaws
namespace Go.Proofs.YtimmhinpdfpokaaDoor.SP
open Go.Lib
set_option linter.unusedVariables false
set_option linter.unusedSimpArgs false

/-- How many further bytes a letter has, by its first; none: it is no letter's first byte. -/
def moreN (c : Nat) : Option Nat := if c < 128 then some 0 else if 194 ≤ c ∧ c ≤ 223 then some 1 else if 224 ≤ c ∧ c ≤ 239 then some 2 else if 240 ≤ c ∧ c ≤ 244 then some 3 else none
def lowN (c : Nat) : Nat := if c = 224 then 160 else if c = 240 then 144 else 128
def highN (c : Nat) : Nat := if c = 237 then 159 else if c = 244 then 143 else 191
/-- Does the byte at place k stand in its bounds? -/
def okAt (l : List UInt8) (c k : Nat) : Bool :=
  let b := (l.getD k 0).toNat
  if k = 1 then decide (lowN c ≤ b) && decide (b ≤ highN c) else decide (128 ≤ b) && decide (b ≤ 191)
/-- The letter at the head: how many bytes it has. -/
def letterAt (l : List UInt8) : Option Nat :=
  match moreN (l.getD 0 0).toNat with
  | none => none
  | some n => if l.length ≤ n then none else if (List.range n).all fun k => okAt l (l.getD 0 0).toNat (k + 1) then some (n + 1) else none
def lettersGo : Nat → List UInt8 → Bool
  | 0, _ => true
  | f + 1, l => if l = [] then true else match letterAt l with
    | none => false
    | some k => lettersGo f (l.drop k)
def letters (l : List UInt8) : Bool := lettersGo l.length l

theorem lead_cases (c : Nat) (h : 128 ≤ c) (h2 : c < 256) :
    (moreN c = none ∧ firstT c % 8 = 1) ∨ (moreN c = some 1 ∧ firstT c % 8 = 2 ∧ accLo (firstT c / 16) = lowN c ∧ accHi (firstT c / 16) = highN c) ∨ (moreN c = some 2 ∧ firstT c % 8 = 3 ∧ accLo (firstT c / 16) = lowN c ∧ accHi (firstT c / 16) = highN c) ∨ (moreN c = some 3 ∧ firstT c % 8 = 4 ∧ accLo (firstT c / 16) = lowN c ∧ accHi (firstT c / 16) = highN c) := by
  have hall : ∀ c : Fin 256, 128 ≤ c.val → (moreN c.val = none ∧ firstT c.val % 8 = 1) ∨ (moreN c.val = some 1 ∧ firstT c.val % 8 = 2 ∧ accLo (firstT c.val / 16) = lowN c.val ∧ accHi (firstT c.val / 16) = highN c.val) ∨ (moreN c.val = some 2 ∧ firstT c.val % 8 = 3 ∧ accLo (firstT c.val / 16) = lowN c.val ∧ accHi (firstT c.val / 16) = highN c.val) ∨ (moreN c.val = some 3 ∧ firstT c.val % 8 = 4 ∧ accLo (firstT c.val / 16) = lowN c.val ∧ accHi (firstT c.val / 16) = highN c.val) := by decide +kernel
  exact hall ⟨c, h2⟩ h

theorem lead_check (l : List UInt8) (hne : l ≠ []) (h0 : 128 ≤ (l.getD 0 0).toNat) :
    checkN l.length (l.getD 1 0).toNat (l.getD 2 0).toNat (l.getD 3 0).toNat (firstT (l.getD 0 0).toNat % 8) (accLo (firstT (l.getD 0 0).toNat / 16)) (accHi (firstT (l.getD 0 0).toNat / 16)) = letterAt l := by
  unfold letterAt
  rcases lead_cases _ h0 (l.getD 0 0).toNat_lt with ⟨h1, h2⟩ | ⟨h1, h2, h3, h4⟩ | ⟨h1, h2, h3, h4⟩ | ⟨h1, h2, h3, h4⟩
  · rw [h1, h2]; rfl
  · rw [h1, h2, h3, h4]
    simp only [checkN, okAt, List.range_succ, List.range_zero, List.nil_append, List.all_cons, List.all_nil, Bool.and_true]
    simp
    by_cases hl : l.length ≤ 1
    · rw [if_pos hl, if_pos (.inl (by omega))]
    · rw [if_neg hl]
      split <;> split <;> first | rfl | (exfalso; omega)
  · rw [h1, h2, h3, h4]
    simp only [checkN, okAt, List.range_succ, List.range_zero, List.nil_append, List.all_append, List.all_cons, List.all_nil, Bool.and_true]
    simp
    by_cases hl : l.length ≤ 2
    · rw [if_pos hl, if_pos (.inl (by omega))]
    · rw [if_neg hl]
      split <;> split <;> first | rfl | (exfalso; omega)
  · rw [h1, h2, h3, h4]
    simp only [checkN, okAt, List.range_succ, List.range_zero, List.nil_append, List.all_append, List.all_cons, List.all_nil, Bool.and_true]
    simp
    by_cases hl : l.length ≤ 3
    · rw [if_pos hl, if_pos (.inl (by omega))]
    · rw [if_neg hl]
      split <;> split <;> first | rfl | (exfalso; omega)

theorem letterAt_ascii (b : UInt8) (t : List UInt8) (h : b.toNat < 128) : letterAt (b :: t) = some 1 := by
  unfold letterAt moreN
  simp [h]
theorem letterAt_pos {l : List UInt8} {k : Nat} (h : letterAt l = some k) : 1 ≤ k ∧ k ≤ l.length := by
  unfold letterAt at h
  split at h
  · cases h
  · split at h
    · cases h
    · split at h
      · injection h with h; omega
      · cases h
theorem lettersGo_valid : ∀ (f : Nat) (l : List UInt8), l.length ≤ f → lettersGo f l = validD l
  | 0, l, h => by
    obtain rfl : l = [] := List.eq_nil_of_length_eq_zero (by omega)
    rfl
  | f + 1, [], h => rfl
  | f + 1, b :: t, h => by
    unfold lettersGo
    rw [if_neg (by simp)]
    by_cases hb : b.toNat < 128
    · rw [letterAt_ascii b t hb]
      simp only [List.drop_succ_cons, List.drop_zero]
      rw [lettersGo_valid f t (by simpa using h), validD_cons b t hb]
    · rw [validD_lead (b :: t) (by simp) (by simpa using hb), lead_check (b :: t) (by simp) (by simpa using hb)]
      cases hk : letterAt (b :: t) with
      | none => rfl
      | some k =>
        have hp := letterAt_pos hk
        simp only
        exact lettersGo_valid f _ (by rw [List.length_drop]; omega)
theorem letters_valid (l : List UInt8) : letters l = validD l := lettersGo_valid _ _ (Nat.le_refl _)
end Go.Proofs.YtimmhinpdfpokaaDoor.SP
