/- The cut of slices.symMergeCmpFunc: where its search ends, what stands below in the left row and in the right row goes first. Plain Lean, no program. -/
import Derived.Test.YtoncjoelkenjnaaSsS
namespace Go.Proofs.Ytoncjoelkenjnaa.SS
set_option linter.unusedVariables false
set_option linter.unusedSimpArgs false

/-- What the search knows of a place. -/
def pr3 (K : Int → Int) (T : List Int) (p : Nat) (c : Nat) : Prop := K (dv T c) ≤ K (dv T (p - c))
section
variable {K : Int → Int} {P A B Q : List Int} {a m z mid s0 r0 : Nat}
/-- Where the search begins and ends. -/
structure SR (a m z mid s0 r0 : Nat) : Prop where
  h1 : a + 2 ≤ m
  h2 : m + 2 ≤ z
  hmid : mid = (a + z) / 2
  hc : (mid < m ∧ s0 + z = mid + m ∧ r0 = mid) ∨ (m ≤ mid ∧ s0 = a ∧ r0 = m)
theorem SR.facts (h : SR a m z mid s0 r0) : a ≤ s0 ∧ s0 ≤ r0 ∧ r0 ≤ m ∧ r0 ≤ mid ∧ mid + m ≤ s0 + z ∧ a < mid ∧ mid < z := by
  obtain ⟨h1, h2, hmid, hc⟩ := h
  omega
theorem dvA (ha : a = P.length) (hm : m = a + A.length) (hA : Srt K A) {s t : Nat} (h1 : a ≤ s) (h2 : s ≤ t) (h3 : t < m) : K (dv (P ++ A ++ B ++ Q) s) ≤ K (dv (P ++ A ++ B ++ Q) t) := by
  rcases Nat.eq_or_lt_of_le h2 with rfl | h2
  · exact Int.le_refl _
  · rw [List.append_assoc (P ++ A)]
    exact (dv_srt hA (by omega) h2 (by omega)).le
theorem dvB (ha : a = P.length) (hm : m = a + A.length) (hz : z = m + B.length) (hB : Srt K B) {s t : Nat} (h1 : m ≤ s) (h2 : s ≤ t) (h3 : t < z) : K (dv (P ++ A ++ B ++ Q) s) ≤ K (dv (P ++ A ++ B ++ Q) t) := by
  rcases Nat.eq_or_lt_of_le h2 with rfl | h2
  · exact Int.le_refl _
  · exact (dv_srt hB (by rw [List.length_append]; omega) h2 (by rw [List.length_append]; omega)).le
theorem mono3 (ha : a = P.length) (hm : m = a + A.length) (hz : z = m + B.length) (hA : Srt K A) (hB : Srt K B) (h : SR a m z mid s0 r0) : ∀ s t, s0 ≤ s → s < t → t < r0 → pr3 K (P ++ A ++ B ++ Q) (mid + m - 1) t → pr3 K (P ++ A ++ B ++ Q) (mid + m - 1) s := by
  intro s t h1 h2 h3 h4
  obtain ⟨f1, f2, f3, f4, f5, f6, f7⟩ := h.facts
  unfold pr3 at h4 ⊢
  have a1 := dvA (B := B) (Q := Q) ha hm hA (s := s) (t := t) (by omega) (by omega) (by omega)
  have a2 := dvB (Q := Q) ha hm hz hB (s := mid + m - 1 - t) (t := mid + m - 1 - s) (by omega) (by omega) (by omega)
  omega
/-- Both rows are cut. -/
structure Cut (K : Int → Int) (A B : List Int) (a m z mid st : Nat) (A1 A2 B1 B2 : List Int) : Prop where
  eA : A = A1 ++ A2
  eB : B = B1 ++ B2
  l1 : st = a + A1.length
  l2 : m = st + A2.length
  l3 : mid + m - st = m + B1.length
  l4 : z = mid + m - st + B2.length
  l5 : mid = st + B1.length
  l6 : mid + m - st = mid + A2.length
  hab : ∀ x ∈ A1, ∀ y ∈ B2, Rr K x y
  hba : ∀ x ∈ A2, ∀ y ∈ B1, K y < K x
theorem cut_any {st : Nat} (ha : a = P.length) (hm : m = a + A.length) (hz : z = m + B.length) (hA : Srt K A) (hB : Srt K B) (hAB : ∀ x ∈ A, ∀ y ∈ B, x < y) (h : SR a m z mid s0 r0) (hs : BS s0 r0 (pr3 K (P ++ A ++ B ++ Q) (mid + m - 1)) st st) : ∃ A1 A2 B1 B2, Cut K A B a m z mid st A1 A2 B1 B2 := by
  obtain ⟨f1, f2, f3, f4, f5, f6, f7⟩ := h.facts
  have g1 := hs.le1
  have g3 := hs.le3
  have hA1 : (A.take (st - a)).length = st - a := by rw [List.length_take]; omega
  have hA2 : (A.drop (st - a)).length = m - st := by rw [List.length_drop]; omega
  have hB1 : (B.take (mid - st)).length = mid - st := by rw [List.length_take]; omega
  have hB2 : (B.drop (mid - st)).length = z + st - (mid + m) := by rw [List.length_drop]; omega
  refine ⟨A.take (st - a), A.drop (st - a), B.take (mid - st), B.drop (mid - st), (List.take_append_drop _ _).symm, (List.take_append_drop _ _).symm, by omega, by omega, by omega, by omega, by omega, by omega, ?_, ?_⟩
  · intro x hx y hy
    have hxy := hAB x (List.mem_of_mem_take hx) y (List.mem_of_mem_drop hy)
    obtain ⟨s, s1, s2, s3⟩ := mem_take_dv (P := P) (Q := B ++ Q) (by omega) hx
    obtain ⟨t, t1, t2, t3⟩ := mem_drop_dv (P := P ++ A) (Q := Q) hy
    rw [← List.append_assoc] at s3
    rw [List.length_append] at t1 t2
    have hst : s0 < st := by have := h.hc; omega
    have a0 := hs.lt (st - 1) (by omega) (by omega)
    unfold pr3 at a0
    have a1 := dvA (B := B) (Q := Q) ha hm hA (s := s) (t := st - 1) (by omega) (by omega) (by omega)
    have a2 := dvB (Q := Q) ha hm hz hB (s := mid + m - 1 - (st - 1)) (t := t) (by omega) (by omega) (by omega)
    rw [s3] at a1
    rw [t3] at a2
    rcases Int.lt_or_le (K x) (K y) with c | c
    · exact .inl c
    · exact .inr ⟨by omega, hxy⟩
  · intro x hx y hy
    obtain ⟨s, s1, s2, s3⟩ := mem_drop_dv (P := P) (Q := B ++ Q) hx
    obtain ⟨t, t1, t2, t3⟩ := mem_take_dv (P := P ++ A) (Q := Q) (by omega) hy
    rw [← List.append_assoc] at s3
    rw [List.length_append] at t1 t2
    have hst : st < r0 := by have := h.hc; omega
    have a0 := hs.ge st (Nat.le_refl _) hst
    unfold pr3 at a0
    have a1 := dvA (B := B) (Q := Q) ha hm hA (s := st) (t := s) (by omega) (by omega) (by omega)
    have a2 := dvB (Q := Q) ha hm hz hB (s := t) (t := mid + m - 1 - st) (by omega) (by omega) (by omega)
    rw [s3] at a1
    rw [t3] at a2
    omega
end
end Go.Proofs.Ytoncjoelkenjnaa.SS
