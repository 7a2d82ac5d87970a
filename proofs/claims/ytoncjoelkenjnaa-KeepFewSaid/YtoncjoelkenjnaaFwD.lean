/- KeepFew in plain Lean: what the law asks. No program. -/
import Derived.Test.YtoncjoelkenjnaaFwC
namespace Go.Proofs.Ytoncjoelkenjnaa.PL
open Go.RowKit Mem Go.Proofs.Ytoncjoelkenjnaa.Days Go.Proofs.Ytoncjoelkenjnaa.SS
set_option linter.unusedVariables false
set_option linter.unusedSimpArgs false

section
variable {tm : Nat → Int} {M : List Int} {n : Nat}
/-- A rule of noughts keeps nothing. -/
theorem zero_keeps (hs : Sd (keyT tm) M (ints n)) (i : Nat) : planW tm M 0 0 0 0 0 0 0 i = 0 := by
  rw [plan_bits (sd_ne hs) (sd_pos hs)]
  have hk : ∀ q, kq tm M (mostF 0 0 0 0 0 0) q i = false := fun q => by
    unfold kq
    refine kin_none M 0 0 0 ?_
    unfold mostF
    repeat' split
    all_goals exact Int.le_refl _
  have hw : win tm 0 (tm ((M.head?.getD 0).toNat)) M i = false := by
    unfold win
    exact decide_eq_false (fun c => by omega)
  rw [hk, hk, hk, hk, hk, hk, hw]
  rfl
/-- The bits stay below 128. -/
theorem plan_le (hs : Sd (keyT tm) M (ints n)) (l h d k m y v : Int) (i : Nat) : 0 ≤ planW tm M l h d k m y v i ∧ planW tm M l h d k m y v i ≤ 127 := by
  rw [plan_bits (sd_ne hs) (sd_pos hs)]
  exact sum7_bd _ _ _ _ _ _ _
theorem b2_and {b : Bool} {x : Int} {bit : Nat} (h : x.toNat &&& bit = (b2 b (bit : Int)).toNat) (h0 : 0 ≤ x) (h1 : x ≤ 127) (hb : 0 < bit) (hb2 : bit ≤ 32) : (bits .and .u8 x (bit : Int) != 0) = b := by
  rw [u8_and x (bit : Int) h0 (by omega) (by omega) (by omega), Int.toNat_natCast, h]
  unfold b2
  cases b with
  | false => rfl
  | true =>
    rw [if_pos rfl, Int.toNat_natCast]
    simp
    omega
theorem bit_of (hs : Sd (keyT tm) M (ints n)) (l h d k m y v : Int) (i : Nat) {q : Nat} (hq : q < 6) : (bits .and .u8 (planW tm M l h d k m y v i) ((2 : Int) ^ q) != 0) = kq tm M (mostF l h d k m y) q i := by
  rw [plan_bits (sd_ne hs) (sd_pos hs)]
  obtain ⟨h0, h1⟩ := sum7_bd (kq tm M (mostF l h d k m y) 0 i) (kq tm M (mostF l h d k m y) 1 i) (kq tm M (mostF l h d k m y) 2 i) (kq tm M (mostF l h d k m y) 3 i) (kq tm M (mostF l h d k m y) 4 i) (kq tm M (mostF l h d k m y) 5 i) (win tm v (tm ((M.head?.getD 0).toNat)) M i)
  obtain ⟨a0, a1, a2, a3, a4, a5⟩ := sum7_and (kq tm M (mostF l h d k m y) 0 i) (kq tm M (mostF l h d k m y) 1 i) (kq tm M (mostF l h d k m y) 2 i) (kq tm M (mostF l h d k m y) 3 i) (kq tm M (mostF l h d k m y) 4 i) (kq tm M (mostF l h d k m y) 5 i) (win tm v (tm ((M.head?.getD 0).toNat)) M i)
  match q, hq with
  | 0, _ => exact b2_and (bit := 1) a0 h0 h1 (by decide) (by decide)
  | 1, _ => exact b2_and (bit := 2) a1 h0 h1 (by decide) (by decide)
  | 2, _ => exact b2_and (bit := 4) a2 h0 h1 (by decide) (by decide)
  | 3, _ => exact b2_and (bit := 8) a3 h0 h1 (by decide) (by decide)
  | 4, _ => exact b2_and (bit := 16) a4 h0 h1 (by decide) (by decide)
  | 5, _ => exact b2_and (bit := 32) a5 h0 h1 (by decide) (by decide)
/-- Counted over the places as over the order. -/
theorem cnt_order (hs : Sd (keyT tm) M (ints n)) (l h d k m y v : Int) {q : Nat} (hq : q < 6) : cnt (planW tm M l h d k m y v) ((2 : Int) ^ q) n = M.countP fun x => kq tm M (mostF l h d k m y) q x.toNat := by
  have h1 : M.countP (fun x => kq tm M (mostF l h d k m y) q x.toNat) = (ints n).countP (fun x => kq tm M (mostF l h d k m y) q x.toNat) := hs.perm.countP_eq _
  rw [h1]
  unfold ints cnt
  rw [List.countP_map]
  refine List.countP_congr fun i _ => ?_
  rw [bit_of hs l h d k m y v i hq]
  simp
/-- A part keeps no more than its number says, and the newest, if it is above 0. -/
theorem few (hs : Sd (keyT tm) M (ints n)) (l h d k m y v : Int) {q : Nat} (hq : q < 6) (h0 : 0 ≤ mostF l h d k m y q) :
    ((cnt (planW tm M l h d k m y v) ((2 : Int) ^ q) n : Nat) : Int) ≤ mostF l h d k m y q ∧ (0 < mostF l h d k m y q → 0 < n → 0 < cnt (planW tm M l h d k m y v) ((2 : Int) ^ q) n) := by
  rw [cnt_order hs l h d k m y v hq]
  constructor
  · have h1 := kin_count (most := mostF l h d k m y q) (b := bkt tm q) M 0 0 0 (sd_ne hs) (sd_pos hs) h0
    unfold kq
    omega
  · intro h1 hn
    cases hM : M with
    | nil =>
      have h2 := hs.len
      rw [hM, ints_len] at h2
      simp at h2
      omega
    | cons x M' =>
      refine List.countP_pos_iff.2 ⟨x, by simp, ?_⟩
      unfold kq
      exact kin_first h1
/-- The newest is kept if anything is. -/
theorem head_keeps (hs : Sd (keyT tm) M (ints n)) {l h d k m y v : Int} {z : Int} {M' : List Int} (hM : M = z :: M') (ha : 0 < l ∨ 0 < h ∨ 0 < d ∨ 0 < k ∨ 0 < m ∨ 0 < y ∨ 0 < v) : planW tm M l h d k m y v z.toNat ≠ 0 := by
  have hz := sd_pos hs z (by rw [hM]; simp)
  have hk : ∀ q, 0 < mostF l h d k m y q → kq tm M (mostF l h d k m y) q z.toNat = true := fun q hq => by
    unfold kq
    rw [hM]
    exact kin_first hq
  rw [plan_bits (sd_ne hs) (sd_pos hs)]
  have nn : ∀ (b : Bool) (x : Int), 0 ≤ x → 0 ≤ b2 b x := fun b x hx => by unfold b2; split <;> omega
  have yes : ∀ x : Int, b2 true x = x := fun x => rfl
  have hp : ∀ b0 b1 c2 b3 b4 b5 b6 : Bool, (b0 = true ∨ b1 = true ∨ c2 = true ∨ b3 = true ∨ b4 = true ∨ b5 = true ∨ b6 = true) → sum7 b0 b1 c2 b3 b4 b5 b6 ≠ 0 := by
    intro b0 b1 c2 b3 b4 b5 b6 hb
    have n0 := nn b0 1 (by decide)
    have n1 := nn b1 2 (by decide)
    have n2 := nn c2 4 (by decide)
    have n3 := nn b3 8 (by decide)
    have n4 := nn b4 16 (by decide)
    have n5 := nn b5 32 (by decide)
    have n6 := nn b6 64 (by decide)
    unfold sum7
    rcases hb with rfl | rfl | rfl | rfl | rfl | rfl | rfl
    all_goals (simp only [yes] at *; omega)
  apply hp
  rcases ha with c | c | c | c | c | c | c
  · exact .inl (hk 0 c)
  · exact .inr (.inl (hk 1 c))
  · exact .inr (.inr (.inl (hk 2 c)))
  · exact .inr (.inr (.inr (.inl (hk 3 c))))
  · exact .inr (.inr (.inr (.inr (.inl (hk 4 c)))))
  · exact .inr (.inr (.inr (.inr (.inr (.inl (hk 5 c))))))
  · refine .inr (.inr (.inr (.inr (.inr (.inr ?_)))))
    unfold win
    refine decide_eq_true ⟨by rw [Int.toNat_of_nonneg hz, hM]; simp, c, ?_⟩
    rw [hM]
    show tm z.toNat - tm z.toNat ≤ v
    omega
/-- A greater number keeps all that the smaller one keeps. -/
theorem more_keeps (hs : Sd (keyT tm) M (ints n)) {l h d k m y v l' h' d' k' m' y' v' : Int} (c0 : l ≤ l') (c1 : h ≤ h') (c2 : d ≤ d') (c3 : k ≤ k') (c4 : m ≤ m') (c5 : y ≤ y') (c6 : v ≤ v') (i : Nat) :
    bits .and .u8 (planW tm M l h d k m y v i) (planW tm M l' h' d' k' m' y' v' i) = planW tm M l h d k m y v i := by
  rw [plan_bits (sd_ne hs) (sd_pos hs), plan_bits (sd_ne hs) (sd_pos hs)]
  refine sum7_sub (kin_mono c0 M 0 0 0) (kin_mono c1 M 0 0 0) (kin_mono c2 M 0 0 0) (kin_mono c3 M 0 0 0) (kin_mono c4 M 0 0 0) (kin_mono c5 M 0 0 0) (fun hw => ?_)
  unfold win at hw ⊢
  have h1 := of_decide_eq_true hw
  exact decide_eq_true ⟨h1.1, by omega, by omega⟩
end
end Go.Proofs.Ytoncjoelkenjnaa.PL
