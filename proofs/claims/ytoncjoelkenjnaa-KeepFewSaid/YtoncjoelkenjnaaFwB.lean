/- KeepFew in plain Lean: the bits of what is kept. No program. -/
import Derived.Test.YtoncjoelkenjnaaFwM
import Derived.Laws.BitsAllLaws
namespace Go.Proofs.Ytoncjoelkenjnaa.PL
open Go.RowKit Mem Go.Proofs.Ytoncjoelkenjnaa.Days Go.Proofs.Ytoncjoelkenjnaa.SS
set_option linter.unusedVariables false
set_option linter.unusedSimpArgs false

theorem wit_win {tm : Nat → Int} {v t0 : Int} {i : Nat} : ∀ (M : List Int) (ws : Nat → Int), M.Pairwise (· ≠ ·) → (∀ x ∈ M, 0 ≤ x) → witW tm v t0 M ws i = ws i + if win tm v t0 M i = true then 64 else 0 := by
  intro M
  induction M with
  | nil => intro ws _ _; simp [witW, win]
  | cons x M ih =>
    intro ws hp h0
    have hp2 := List.pairwise_cons.1 hp
    have h02 := fun y hy => h0 y (List.mem_cons_of_mem x hy)
    have hx := h0 x (by simp)
    unfold witW
    rw [ih _ hp2.2 h02]
    by_cases hix : i = x.toNat
    · have hnm : ¬ (i : Int) ∈ M := fun hm => hp2.1 _ hm (by omega)
      have hm : (i : Int) ∈ x :: M := by rw [hix, Int.toNat_of_nonneg hx]; simp
      have hw : win tm v t0 M i = false := by unfold win; exact decide_eq_false (fun c => hnm c.1)
      rw [hw]
      by_cases hc : 0 < v ∧ t0 - tm x.toNat ≤ v
      · have hw2 : win tm v t0 (x :: M) i = true := by unfold win; rw [hix] at hm ⊢; exact decide_eq_true ⟨hm, hc⟩
        rw [if_pos hc, hw2]
        unfold updW
        rw [if_pos hix, hix]
        simp
      · have hw2 : win tm v t0 (x :: M) i = false := by unfold win; rw [hix]; exact decide_eq_false (fun c => hc c.2)
        rw [if_neg hc, hw2]
    · have hw : win tm v t0 (x :: M) i = win tm v t0 M i := by
        unfold win
        have e : ((i : Int) ∈ x :: M) ↔ (i : Int) ∈ M := by
          rw [List.mem_cons]
          constructor
          · rintro (c | c)
            · omega
            · exact c
          · exact .inr
        simp only [e]
      rw [hw]
      split
      · unfold updW; rw [if_neg hix]
      · rfl
/-- Whether part q keeps shot i. -/
def kq (tm : Nat → Int) (M : List Int) (most : Nat → Int) (q i : Nat) : Bool := kin (most q) (bkt tm q) 0 M 0 0 i
def b2 (b : Bool) (n : Int) : Int := if b = true then n else 0
theorem parts_bits {tm : Nat → Int} {M : List Int} {most : Nat → Int} (hp : M.Pairwise (· ≠ ·)) (h0 : ∀ x ∈ M, 0 ≤ x) (i k : Nat) : partsW tm M most (k + 1) i = partsW tm M most k i + b2 (kq tm M most k i) (2 ^ k) := inner_kin M 0 0 0 _ hp h0
/-- The bits. -/
def sum7 (b0 b1 b2' b3 b4 b5 b6 : Bool) : Int := b2 b0 1 + b2 b1 2 + b2 b2' 4 + b2 b3 8 + b2 b4 16 + b2 b5 32 + b2 b6 64
theorem plan_bits {tm : Nat → Int} {M : List Int} {l h d k m y v : Int} (hp : M.Pairwise (· ≠ ·)) (h0 : ∀ x ∈ M, 0 ≤ x) (i : Nat) :
    planW tm M l h d k m y v i = sum7 (kq tm M (mostF l h d k m y) 0 i) (kq tm M (mostF l h d k m y) 1 i) (kq tm M (mostF l h d k m y) 2 i) (kq tm M (mostF l h d k m y) 3 i) (kq tm M (mostF l h d k m y) 4 i) (kq tm M (mostF l h d k m y) 5 i) (win tm v (tm ((M.head?.getD 0).toNat)) M i) := by
  unfold planW
  rw [wit_win M _ hp h0, parts_bits hp h0 i 5, parts_bits hp h0 i 4, parts_bits hp h0 i 3, parts_bits hp h0 i 2, parts_bits hp h0 i 1, parts_bits hp h0 i 0]
  unfold sum7
  have e : partsW tm M (mostF l h d k m y) 0 i = 0 := rfl
  rw [e]
  have e0 : (2 : Int) ^ 0 = 1 := rfl
  have e1 : (2 : Int) ^ 1 = 2 := rfl
  have e2 : (2 : Int) ^ 2 = 4 := rfl
  have e3 : (2 : Int) ^ 3 = 8 := rfl
  have e4 : (2 : Int) ^ 4 = 16 := rfl
  have e5 : (2 : Int) ^ 5 = 32 := rfl
  rw [e0, e1, e2, e3, e4, e5, Int.zero_add]
  rfl
theorem sum7_bd (b0 b1 b2' b3 b4 b5 b6 : Bool) : 0 ≤ sum7 b0 b1 b2' b3 b4 b5 b6 ∧ sum7 b0 b1 b2' b3 b4 b5 b6 ≤ 127 := by
  revert b0 b1 b2' b3 b4 b5 b6; decide +kernel
theorem sum7_and (b0 b1 b2' b3 b4 b5 b6 : Bool) :
    ((sum7 b0 b1 b2' b3 b4 b5 b6).toNat &&& 1 = (b2 b0 1).toNat) ∧ ((sum7 b0 b1 b2' b3 b4 b5 b6).toNat &&& 2 = (b2 b1 2).toNat) ∧ ((sum7 b0 b1 b2' b3 b4 b5 b6).toNat &&& 4 = (b2 b2' 4).toNat) ∧ ((sum7 b0 b1 b2' b3 b4 b5 b6).toNat &&& 8 = (b2 b3 8).toNat) ∧ ((sum7 b0 b1 b2' b3 b4 b5 b6).toNat &&& 16 = (b2 b4 16).toNat) ∧ ((sum7 b0 b1 b2' b3 b4 b5 b6).toNat &&& 32 = (b2 b5 32).toNat) := by
  revert b0 b1 b2' b3 b4 b5 b6; decide +kernel
theorem sum7_test (b0 b1 b2' b3 b4 b5 b6 : Bool) :
    (sum7 b0 b1 b2' b3 b4 b5 b6).toNat.testBit 0 = b0 ∧ (sum7 b0 b1 b2' b3 b4 b5 b6).toNat.testBit 1 = b1 ∧ (sum7 b0 b1 b2' b3 b4 b5 b6).toNat.testBit 2 = b2' ∧ (sum7 b0 b1 b2' b3 b4 b5 b6).toNat.testBit 3 = b3 ∧ (sum7 b0 b1 b2' b3 b4 b5 b6).toNat.testBit 4 = b4 ∧ (sum7 b0 b1 b2' b3 b4 b5 b6).toNat.testBit 5 = b5 ∧ (sum7 b0 b1 b2' b3 b4 b5 b6).toNat.testBit 6 = b6 := by
  revert b0 b1 b2' b3 b4 b5 b6; decide +kernel
theorem and_sub {x y : Nat} (h : ∀ i, x.testBit i = true → y.testBit i = true) : x &&& y = x := by
  apply Nat.eq_of_testBit_eq
  intro i
  rw [Nat.testBit_and]
  cases hx : x.testBit i with
  | false => rfl
  | true => rw [h i hx]; rfl
/-- More bits. -/
theorem sum7_sub {b0 b1 b2' b3 b4 b5 b6 c0 c1 c2 c3 c4 c5 c6 : Bool} (h0 : b0 = true → c0 = true) (h1 : b1 = true → c1 = true) (h2 : b2' = true → c2 = true) (h3 : b3 = true → c3 = true) (h4 : b4 = true → c4 = true) (h5 : b5 = true → c5 = true) (h6 : b6 = true → c6 = true) :
    bits .and .u8 (sum7 b0 b1 b2' b3 b4 b5 b6) (sum7 c0 c1 c2 c3 c4 c5 c6) = sum7 b0 b1 b2' b3 b4 b5 b6 := by
  have d1 := sum7_bd b0 b1 b2' b3 b4 b5 b6
  have d2 := sum7_bd c0 c1 c2 c3 c4 c5 c6
  rw [u8_and _ _ (by omega) (by omega) (by omega) (by omega)]
  obtain ⟨t0, t1, t2, t3, t4, t5, t6⟩ := sum7_test b0 b1 b2' b3 b4 b5 b6
  obtain ⟨s0, s1, s2, s3, s4, s5, s6⟩ := sum7_test c0 c1 c2 c3 c4 c5 c6
  generalize sum7 b0 b1 b2' b3 b4 b5 b6 = X at *
  generalize sum7 c0 c1 c2 c3 c4 c5 c6 = Y at *
  rw [and_sub]
  · omega
  · intro i hi
    match i with
    | 0 => rw [s0]; rw [t0] at hi; exact h0 hi
    | 1 => rw [s1]; rw [t1] at hi; exact h1 hi
    | 2 => rw [s2]; rw [t2] at hi; exact h2 hi
    | 3 => rw [s3]; rw [t3] at hi; exact h3 hi
    | 4 => rw [s4]; rw [t4] at hi; exact h4 hi
    | 5 => rw [s5]; rw [t5] at hi; exact h5 hi
    | 6 => rw [s6]; rw [t6] at hi; exact h6 hi
    | i + 7 =>
      exfalso
      have hlt : X.toNat < 2 ^ (i + 7) := by
        have h1 : (2 : Nat) ^ 7 ≤ 2 ^ (i + 7) := Nat.pow_le_pow_right (by decide) (by omega)
        omega
      rw [Nat.testBit_lt_two_pow hlt] at hi
      cases hi
end Go.Proofs.Ytoncjoelkenjnaa.PL
