/- The program's IsName: its loop over the letters, in plain Lean, answers as the document's Named. -/
import Derived.Test.YtimmhinpdfpokaaDoorSpC
import Derived.Lib.TrimUEq
namespace Go.Proofs.YtimmhinpdfpokaaDoor.SP
open Go.Lib
set_option linter.unusedVariables false
set_option linter.unusedSimpArgs false

/-- The program's loop, from what is left on. -/
def runsD : Nat → List UInt8 → Bool
  | 0, _ => true
  | f + 1, l => if l = [] then true else if (decodeL l).1 = 47 ∨ (decodeL l).1 = 0 then false else if (decodeL l).1 = 65533 ∧ (decodeL l).2 = 1 then false else runsD f (l.drop (decodeL l).2)
theorem decode_letter (l : List UInt8) (hne : l ≠ []) (h0 : 128 ≤ (l.getD 0 0).toNat) : (letterAt l = none ∧ decodeL l = (65533, 1)) ∨ ∃ k, 2 ≤ k ∧ letterAt l = some k ∧ (decodeL l).2 = k := by
  rw [← lead_check l hne h0, decodeL_N]
  exact check_decode _ _ _ _ _ (List.length_pos_iff.2 hne) h0 (l.getD 0 0).toNat_lt (l.getD 1 0).toNat_lt (l.getD 2 0).toNat_lt (l.getD 3 0).toNat_lt
theorem lowN_ge (c : Nat) : 128 ≤ lowN c := by unfold lowN; repeat' split
                                               all_goals omega
theorem okAt_ge {l : List UInt8} {c k : Nat} (h : okAt l c k = true) : 128 ≤ (l.getD k 0).toNat := by
  unfold okAt at h
  rw [List.getD_eq_getElem?_getD] at h ⊢
  have := lowN_ge c
  split at h
  · simp at h; omega
  · simp at h; omega
theorem letterAt_high {l : List UInt8} {k : Nat} (h0 : 128 ≤ (l.getD 0 0).toNat) (h : letterAt l = some k) : ∀ j, j < k → 128 ≤ (l.getD j 0).toNat := by
  intro j hj
  rcases Nat.eq_zero_or_pos j with rfl | hp
  · exact h0
  unfold letterAt at h
  split at h
  · cases h
  · split at h
    · cases h
    · split at h
      · rename_i hall
        injection h with h
        rw [List.all_eq_true] at hall
        have := hall (j - 1) (List.mem_range.2 (by omega))
        rw [show j - 1 + 1 = j by omega] at this
        exact okAt_ge this
      · cases h
theorem all_take {l : List UInt8} {k : Nat} (h : ∀ j, j < k → 128 ≤ (l.getD j 0).toNat) (hk : k ≤ l.length) : (l.take k).all plainB = true := by
  rw [List.all_eq_true]
  intro x hx
  obtain ⟨j, hj, hxj⟩ := List.getElem_of_mem hx
  have hj2 : j < k := by rw [List.length_take] at hj; omega
  have := h j hj2
  rw [List.getD_eq_getElem?_getD, List.getElem?_eq_getElem (by omega)] at this
  have e : x = l[j]'(by omega) := by rw [← hxj, List.getElem_take]
  simp only [Option.getD_some] at this
  rw [← e] at this
  unfold plainB
  have h1 : ¬ x.toNat = 47 := by omega
  have h2 : ¬ x.toNat = 0 := by omega
  simp [h1, h2]
theorem decodeL_high (l : List UInt8) (hne : l ≠ []) (h0 : 128 ≤ (l.getD 0 0).toNat) : 128 ≤ (decodeL l).1 := by
  have hl : 0 < l.length := List.length_pos_iff.2 hne
  have hs : 0 < (⟨l.toArray⟩ : ByteArray).size := by rw [size_eq]; simpa using hl
  refine (decode_high ⟨l.toArray⟩ 0 hs ?_).1
  have : ((⟨l.toArray⟩ : ByteArray)[0]'hs) = l[0] := rfl
  rw [this]
  rw [List.getD_eq_getElem?_getD, List.getElem?_eq_getElem hl] at h0
  exact h0
theorem runsD_eq : ∀ (f : Nat) (l : List UInt8), l.length ≤ f → runsD f l = (l.all plainB && letters l)
  | 0, l, h => by
    obtain rfl : l = [] := List.eq_nil_of_length_eq_zero (by omega)
    rfl
  | f + 1, [], h => rfl
  | f + 1, b :: t, h => by
    unfold runsD
    rw [if_neg (by simp)]
    by_cases hb : b.toNat < 128
    · rw [decodeL_ascii b t hb, letters_step (by simp), letterAt_ascii b t hb]
      simp only [List.drop_succ_cons, List.drop_zero]
      rw [runsD_eq f t (by simpa using h)]
      by_cases h47 : b.toNat = 47
      · rw [if_pos (.inl h47)]; simp [plainB, h47]
      · by_cases hz : b.toNat = 0
        · rw [if_pos (.inr hz)]; simp [plainB, hz]
        · rw [if_neg (by omega), if_neg (by omega)]
          simp [plainB, h47, hz]
    · have h0 : 128 ≤ (((b :: t).getD 0 0)).toNat := by simpa using hb
      have hd := decodeL_high (b :: t) (by simp) h0
      rw [if_neg (by omega)]
      rcases decode_letter (b :: t) (by simp) h0 with ⟨h1, h2⟩ | ⟨k, hk, h1, h2⟩
      · rw [h2, if_pos ⟨rfl, rfl⟩, letters_step (by simp), h1]; simp
      · have hp := letterAt_pos h1
        rw [if_neg (by omega), h2, runsD_eq f _ (by rw [List.length_drop]; omega), letters_step (l := b :: t) (by simp), h1]
        simp only
        have ht := all_take (letterAt_high h0 h1) hp.2
        have e : (b :: t).all plainB = ((b :: t).drop k).all plainB := by
          conv => lhs; rw [← List.take_append_drop k (b :: t)]
          rw [List.all_append, ht]; rfl
        rw [e]
end Go.Proofs.YtimmhinpdfpokaaDoor.SP
