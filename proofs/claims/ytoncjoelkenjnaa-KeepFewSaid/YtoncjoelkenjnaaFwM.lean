/- KeepFew in plain Lean: which shots a part keeps. No program. -/
import Derived.Test.YtoncjoelkenjnaaPlM
namespace Go.Proofs.Ytoncjoelkenjnaa.PL
open Go.RowKit Mem Go.Proofs.Ytoncjoelkenjnaa.Days Go.Proofs.Ytoncjoelkenjnaa.SS
set_option linter.unusedVariables false
set_option linter.unusedSimpArgs false

/-- Whether a part keeps shot i. -/
def kin (most : Int) (b : Nat → Nat → Int) : Nat → List Int → Int → Int → Nat → Bool
  | _, [], _, _, _ => false
  | p, x :: M, kept, last, i =>
    if kept < most ∧ (p = 0 ∨ b p x.toNat ≠ last) then decide (i = x.toNat) || kin most b (p + 1) M (kept + 1) (b p x.toNat) i
    else kin most b (p + 1) M kept (b p x.toNat) i
theorem kin_mem {most : Int} {b : Nat → Nat → Int} {i : Nat} : ∀ (M : List Int) (p : Nat) (kept last : Int), kin most b p M kept last i = true → ∃ x ∈ M, x.toNat = i := by
  intro M
  induction M with
  | nil => intro p kept last h; simp [kin] at h
  | cons x M ih =>
    intro p kept last h
    unfold kin at h
    split at h
    · rcases Bool.or_eq_true_iff.1 h with h | h
      · exact ⟨x, by simp, (of_decide_eq_true h).symm⟩
      · obtain ⟨y, hy, e⟩ := ih _ _ _ h
        exact ⟨y, List.mem_cons_of_mem _ hy, e⟩
    · obtain ⟨y, hy, e⟩ := ih _ _ _ h
      exact ⟨y, List.mem_cons_of_mem _ hy, e⟩
theorem inner_kin {most why : Int} {b : Nat → Nat → Int} {i : Nat} : ∀ (M : List Int) (p : Nat) (kept last : Int) (ws : Nat → Int), M.Pairwise (· ≠ ·) → (∀ x ∈ M, 0 ≤ x) → inner most why b p M kept last ws i = ws i + if kin most b p M kept last i = true then why else 0 := by
  intro M
  induction M with
  | nil => intro p kept last ws _ _; simp [inner, kin]
  | cons x M ih =>
    intro p kept last ws hp h0
    have hp2 := List.pairwise_cons.1 hp
    have h02 := fun y hy => h0 y (List.mem_cons_of_mem x hy)
    unfold inner kin
    split
    · rw [ih _ _ _ _ hp2.2 h02]
      unfold updW
      by_cases hix : i = x.toNat
      · have hk : kin most b (p + 1) M (kept + 1) (b p x.toNat) i = false := by
          cases hc : kin most b (p + 1) M (kept + 1) (b p x.toNat) i with
          | false => rfl
          | true =>
            obtain ⟨y, hy, e⟩ := kin_mem _ _ _ _ hc
            exfalso
            have h1 := hp2.1 y hy
            have h2 := h0 x (by simp)
            have h3 := h02 y hy
            omega
        rw [hk, if_pos hix]
        simp [hix]
      · rw [if_neg hix]
        simp [hix]
    · exact ih _ _ _ _ hp2.2 h02
theorem kin_none {most : Int} {b : Nat → Nat → Int} {i : Nat} : ∀ (M : List Int) (p : Nat) (kept last : Int), most ≤ kept → kin most b p M kept last i = false := by
  intro M
  induction M with
  | nil => intro p kept last h; rfl
  | cons x M ih =>
    intro p kept last h
    unfold kin
    rw [if_neg (by omega)]
    exact ih _ _ _ h
/-- A greater number keeps all that the smaller one keeps. -/
theorem kin_mono {most most' : Int} {b : Nat → Nat → Int} {i : Nat} (hm : most ≤ most') : ∀ (M : List Int) (p : Nat) (kept last : Int), kin most b p M kept last i = true → kin most' b p M kept last i = true := by
  intro M
  induction M with
  | nil => intro p kept last h; simp [kin] at h
  | cons x M ih =>
    intro p kept last h
    by_cases hk : kept < most
    · unfold kin at h ⊢
      by_cases hf : p = 0 ∨ b p x.toNat ≠ last
      · rw [if_pos ⟨hk, hf⟩] at h
        rw [if_pos ⟨by omega, hf⟩]
        rcases Bool.or_eq_true_iff.1 h with h | h
        · rw [h]; rfl
        · rw [ih _ _ _ h, Bool.or_true]
      · rw [if_neg (fun c => hf c.2)] at h
        rw [if_neg (fun c => hf c.2)]
        exact ih _ _ _ h
    · rw [kin_none _ _ _ _ (by omega)] at h
      cases h
/-- A part keeps no more than its number says. -/
theorem kin_count {most : Int} {b : Nat → Nat → Int} : ∀ (M : List Int) (p : Nat) (kept last : Int), M.Pairwise (· ≠ ·) → (∀ x ∈ M, 0 ≤ x) → kept ≤ most → ((M.countP fun x => kin most b p M kept last x.toNat : Nat) : Int) ≤ most - kept := by
  intro M
  induction M with
  | nil => intro p kept last _ _ h; simp; omega
  | cons x M ih =>
    intro p kept last hp h0 h
    have hp2 := List.pairwise_cons.1 hp
    have h02 := fun y hy => h0 y (List.mem_cons_of_mem x hy)
    have hne : ∀ y ∈ M, y.toNat ≠ x.toNat := fun y hy => by
      have h1 := hp2.1 y hy
      have h2 := h0 x (by simp)
      have h3 := h02 y hy
      omega
    by_cases hc : kept < most ∧ (p = 0 ∨ b p x.toNat ≠ last)
    · have h1 := ih (p + 1) (kept + 1) (b p x.toNat) hp2.2 h02 (by omega)
      have e1 : M.countP (fun y => kin most b p (x :: M) kept last y.toNat) = M.countP (fun y => kin most b (p + 1) M (kept + 1) (b p x.toNat) y.toNat) := by
        refine List.countP_congr fun y hy => ?_
        conv => lhs; unfold kin
        rw [if_pos hc]
        simp [hne y hy]
      rw [List.countP_cons, e1]
      split <;> omega
    · have h1 := ih (p + 1) kept (b p x.toNat) hp2.2 h02 h
      have e1 : M.countP (fun y => kin most b p (x :: M) kept last y.toNat) = M.countP (fun y => kin most b (p + 1) M kept (b p x.toNat) y.toNat) := by
        refine List.countP_congr fun y hy => ?_
        conv => lhs; unfold kin
        rw [if_neg hc]
      have e2 : kin most b p (x :: M) kept last x.toNat = false := by
        cases hk : kin most b p (x :: M) kept last x.toNat with
        | false => rfl
        | true =>
          exfalso
          unfold kin at hk
          rw [if_neg hc] at hk
          obtain ⟨y, hy, e⟩ := kin_mem _ _ _ _ hk
          exact hne y hy e
      rw [List.countP_cons, e1, e2]
      simpa using h1
/-- The newest is kept, if the number is above 0. -/
theorem kin_first {most : Int} {b : Nat → Nat → Int} {x last : Int} {M : List Int} (h : 0 < most) : kin most b 0 (x :: M) 0 last x.toNat = true := by
  unfold kin
  rw [if_pos ⟨h, .inl rfl⟩]
  simp
/-- Whether its age keeps it. -/
def win (tm : Nat → Int) (v t0 : Int) (M : List Int) (i : Nat) : Bool := decide ((i : Int) ∈ M ∧ 0 < v ∧ t0 - tm i ≤ v)
end Go.Proofs.Ytoncjoelkenjnaa.PL
