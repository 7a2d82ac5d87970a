/- A row with two ends in a ring, in plain Lean. No program here. -/
import Init
namespace Go.Proofs.Ytknbehjhaaidoaa.DQ
set_option linter.unusedVariables false

theorem place_eq {f i R : Nat} (hf : f < R) (hi : i ≤ R) : (f + i) % R = if f + i < R then f + i else f + i - R := by
  split
  · exact Nat.mod_eq_of_lt (by assumption)
  · rw [Nat.mod_eq_sub_mod (by omega), Nat.mod_eq_of_lt (by omega)]
theorem place_lt {f i R : Nat} (hf : f < R) : (f + i) % R < R := Nat.mod_lt _ (by omega)
theorem place_inj {f i j R : Nat} (hf : f < R) (hi : i < R) (hj : j < R) (h : (f + i) % R = (f + j) % R) : i = j := by
  rw [place_eq hf (by omega), place_eq hf (by omega)] at h
  split at h <;> split at h <;> omega

/-- The ring C holds L, the first of it at f. -/
structure Holds {α : Type} (C : List α) (f : Nat) (L : List α) : Prop where
  from_ : f < C.length
  size : L.length ≤ C.length
  at_ : ∀ i x, L[i]? = some x → C[(f + i) % C.length]? = some x

section
variable {α : Type} {C L : List α} {f : Nat}
theorem Holds.nil (C : List α) (h : 0 < C.length) : Holds C 0 [] := ⟨h, Nat.zero_le _, fun i x h => by simp at h⟩
theorem Holds.push_top (h : Holds C f L) (hr : L.length < C.length) (v : α) : Holds (C.set ((f + L.length) % C.length) v) f (L ++ [v]) := by
  refine ⟨by rw [List.length_set]; exact h.from_, by rw [List.length_set, List.length_append]; simp; omega, fun i x hx => ?_⟩
  rw [List.length_set]
  rcases Nat.lt_or_ge i L.length with c | c
  · rw [List.getElem?_append_left c] at hx
    rw [List.getElem?_set_ne (fun e => by have := place_inj h.from_ hr (by omega) e; omega)]
    exact h.at_ i x hx
  · have hi : i = L.length := by
      have := (List.getElem?_eq_some_iff.1 hx).1
      simp at this; omega
    subst hi
    rw [List.getElem?_append_right (Nat.le_refl _)] at hx
    simp at hx
    subst hx
    rw [List.getElem?_set_self (place_lt h.from_)]
theorem Holds.push_bottom (h : Holds C f L) (hr : L.length < C.length) (v : α) : Holds (C.set ((f + (C.length - 1)) % C.length) v) ((f + (C.length - 1)) % C.length) (v :: L) := by
  have hR := h.from_
  refine ⟨by rw [List.length_set]; exact place_lt h.from_, by rw [List.length_set]; simp; omega, fun i x hx => ?_⟩
  rw [List.length_set]
  have e : ∀ i, i < C.length → ((f + (C.length - 1)) % C.length + (i + 1)) % C.length = (f + i) % C.length := fun i hi => by
    rw [place_eq (place_lt h.from_) (by omega), place_eq h.from_ (by omega), place_eq h.from_ (by omega)]
    split <;> split <;> split <;> omega
  cases i with
  | zero =>
    simp at hx
    subst hx
    rw [Nat.add_zero, Nat.mod_eq_of_lt (place_lt h.from_), List.getElem?_set_self (place_lt h.from_)]
  | succ i =>
    simp at hx
    have hi := (List.getElem?_eq_some_iff.1 hx).1
    rw [e i (by omega), List.getElem?_set_ne (fun e => by have := place_inj h.from_ (by omega) (by omega) e; omega)]
    exact h.at_ i x hx
theorem Holds.pop_top {v : α} (h : Holds C f (L ++ [v])) (z : α) : C[(f + L.length) % C.length]? = some v ∧ Holds (C.set ((f + L.length) % C.length) z) f L := by
  have hs := h.size
  simp at hs
  refine ⟨h.at_ L.length v (by simp), by rw [List.length_set]; exact h.from_, by rw [List.length_set]; omega, fun i x hx => ?_⟩
  have hi := (List.getElem?_eq_some_iff.1 hx).1
  rw [List.length_set, List.getElem?_set_ne (fun e => by have := place_inj h.from_ (by omega) (by omega) e; omega)]
  exact h.at_ i x (by rw [List.getElem?_append_left hi]; exact hx)
theorem Holds.pop_bottom {v : α} (h : Holds C f (v :: L)) (z : α) : C[f]? = some v ∧ Holds (C.set f z) ((f + 1) % C.length) L := by
  have hs := h.size
  simp at hs
  have hR := h.from_
  have h0 := h.at_ 0 v rfl
  rw [Nat.add_zero, Nat.mod_eq_of_lt hR] at h0
  refine ⟨h0, by rw [List.length_set]; exact place_lt hR, by rw [List.length_set]; omega, fun i x hx => ?_⟩
  have hi := (List.getElem?_eq_some_iff.1 hx).1
  have e : ((f + 1) % C.length + i) % C.length = (f + (i + 1)) % C.length := by
    rw [place_eq (place_lt hR) (by omega), place_eq hR (by omega), place_eq hR (by omega)]
    split <;> split <;> split <;> omega
  have e0 : (f + (i + 1)) % C.length ≠ f := fun e => by
    have e : (f + (i + 1)) % C.length = (f + 0) % C.length := by rw [e, Nat.add_zero, Nat.mod_eq_of_lt hR]
    have := place_inj hR (by omega) (by omega) e
    omega
  rw [List.length_set, e, List.getElem?_set_ne (fun e => e0 e.symm)]
  exact h.at_ (i + 1) x (by simpa using hx)
/-- A greater ring. -/
def grown (L : List α) (k n : Nat) (z : α) : List α := L.take k ++ List.replicate (n - k) z
theorem grown_length (L : List α) (k n : Nat) (z : α) (hk : k ≤ L.length) (hn : k ≤ n) : (grown L k n z).length = n := by simp [grown]; omega
theorem grown_0 (L : List α) (n : Nat) (z : α) : grown L 0 n z = List.replicate n z := by simp [grown]
theorem grown_set {k n : Nat} {z x : α} (hx : L[k]? = some x) (hn : k < n) : (grown L k n z).set k x = grown L (k + 1) n z := by
  have hk := (List.getElem?_eq_some_iff.1 hx).1
  have e : n - k = (n - (k + 1)) + 1 := by omega
  unfold grown
  rw [e, List.replicate_succ, List.set_append_right _ _ (by simp; omega), List.take_add_one, hx]
  simp
  rw [show k - min k L.length = 0 by omega]
  simp
theorem Holds.grown (h : Holds C f L) (n : Nat) (hn : L.length < n) (z : α) : Holds (grown L L.length n z) 0 L := by
  have hl := grown_length L L.length n z (Nat.le_refl _) (by omega)
  refine ⟨by rw [hl]; omega, by rw [hl]; omega, fun i x hx => ?_⟩
  have hi := (List.getElem?_eq_some_iff.1 hx).1
  rw [hl, Nat.zero_add, Nat.mod_eq_of_lt (by omega)]
  unfold DQ.grown
  rw [List.take_length, List.getElem?_append_left hi]
  exact hx
/-- k from the bottom to the top. -/
def rot (L : List α) (k : Nat) : List α := L.drop k ++ L.take k
theorem rot_0 (L : List α) : rot L 0 = L := by simp [rot]
theorem rot_step {k : Nat} {x : α} (hx : L[k]? = some x) : rot L k = x :: (L.drop (k + 1) ++ L.take k) ∧ rot L (k + 1) = (L.drop (k + 1) ++ L.take k) ++ [x] := by
  have hk := (List.getElem?_eq_some_iff.1 hx).1
  constructor
  · unfold rot
    rw [List.drop_eq_getElem_cons hk]
    have : L[k] = x := by rw [List.getElem?_eq_getElem hk] at hx; injection hx
    rw [this]; rfl
  · unfold rot
    rw [List.take_add_one, hx]
    simp
theorem rot_len (L : List α) (k : Nat) : (rot L k).length = L.length := by simp [rot]; omega
theorem rot_rot (L : List α) (a b : Nat) (h : a + b = L.length) : rot (rot L a) b = L := by
  have e : b = (L.drop a).length := by simp; omega
  unfold rot
  rw [e, List.drop_left, List.take_left, List.take_append_drop]
end

/-- How many a turn moves. -/
def turnK (n : Int) (len : Nat) : Nat := (n % (len : Int)).toNat
theorem turnK_lt (n : Int) {len : Nat} (h : 0 < len) : turnK n len < len := by
  unfold turnK
  have h1 := Int.emod_nonneg n (b := (len : Int)) (by omega)
  have h2 := Int.emod_lt_of_pos n (b := (len : Int)) (by omega)
  omega
theorem turn_back {α : Type} (L : List α) (n : Int) : rot (rot L (turnK n L.length)) (turnK (-n) L.length) = L := by
  rcases Nat.eq_zero_or_pos L.length with h | h
  · have := List.eq_nil_of_length_eq_zero h
    subst this
    simp [rot]
  · have h1 := turnK_lt n h
    have h2 := turnK_lt (-n) h
    have h3 : ((turnK n L.length : Nat) : Int) = n % (L.length : Int) := by
      unfold turnK
      exact Int.toNat_of_nonneg (Int.emod_nonneg n (by omega))
    have h4 : ((turnK (-n) L.length : Nat) : Int) = (-n) % (L.length : Int) := by
      unfold turnK
      exact Int.toNat_of_nonneg (Int.emod_nonneg (-n) (by omega))
    have h5 : ((turnK n L.length : Int) + (turnK (-n) L.length : Int)) % (L.length : Int) = 0 := by
      rw [h3, h4, ← Int.add_emod, Int.add_right_neg, Int.zero_emod]
    have h6 : turnK n L.length + turnK (-n) L.length = 0 ∨ turnK n L.length + turnK (-n) L.length = L.length := by
      rcases Nat.lt_or_ge (turnK n L.length + turnK (-n) L.length) L.length with c | c
      · left
        have : ((turnK n L.length : Int) + (turnK (-n) L.length : Int)) % (L.length : Int) = (turnK n L.length : Int) + (turnK (-n) L.length : Int) := Int.emod_eq_of_lt (by omega) (by omega)
        omega
      · right
        have e : ((turnK n L.length : Int) + (turnK (-n) L.length : Int)) = ((turnK n L.length : Int) + (turnK (-n) L.length : Int) - (L.length : Int)) + (L.length : Int) := by omega
        rw [e, Int.add_emod_right, Int.emod_eq_of_lt (by omega) (by omega)] at h5
        omega
    rcases h6 with h6 | h6
    · rw [show turnK n L.length = 0 by omega, show turnK (-n) L.length = 0 by omega, rot_0, rot_0]
    · exact rot_rot L _ _ h6

end Go.Proofs.Ytknbehjhaaidoaa.DQ
