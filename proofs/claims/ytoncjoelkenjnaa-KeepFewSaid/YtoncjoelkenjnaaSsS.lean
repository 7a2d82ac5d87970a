/- The binary search of slices.symMergeCmpFunc, in plain Lean; a row seen by index. No program. -/
import Derived.Test.YtoncjoelkenjnaaSsM
namespace Go.Proofs.Ytoncjoelkenjnaa.SS
set_option linter.unusedVariables false
set_option linter.unusedSimpArgs false

/-- A search between lo and hi for the end of pr's run: below i it holds, from j on it does not. -/
structure BS (lo hi : Nat) (pr : Nat → Prop) (i j : Nat) : Prop where
  le1 : lo ≤ i
  le2 : i ≤ j
  le3 : j ≤ hi
  lt : ∀ t, lo ≤ t → t < i → pr t
  ge : ∀ t, j ≤ t → t < hi → ¬ pr t
theorem BS.start {lo hi : Nat} (pr : Nat → Prop) (h : lo ≤ hi) : BS lo hi pr lo hi := ⟨Nat.le_refl _, h, Nat.le_refl _, fun t h1 h2 => by omega, fun t h1 h2 => by omega⟩
theorem BS.up {lo hi i j c : Nat} {pr : Nat → Prop} (h : BS lo hi pr i j) (mono : ∀ s t, lo ≤ s → s < t → t < hi → pr t → pr s) (h1 : i ≤ c) (h2 : c < j) (hc : pr c) : BS lo hi pr (c + 1) j :=
  ⟨by have := h.le1; omega, by omega, h.le3, fun t ha hb => by
    rcases Nat.lt_or_eq_of_le (Nat.le_of_lt_succ hb) with hl | rfl
    · exact mono t c ha hl (by have := h.le3; omega) hc
    · exact hc, h.ge⟩
theorem BS.down {lo hi i j c : Nat} {pr : Nat → Prop} (h : BS lo hi pr i j) (mono : ∀ s t, lo ≤ s → s < t → t < hi → pr t → pr s) (h1 : i ≤ c) (h2 : c < j) (hc : ¬ pr c) : BS lo hi pr i c :=
  ⟨h.le1, h1, by have := h.le3; omega, h.lt, fun t ha hb hp => by
    rcases Nat.eq_or_lt_of_le ha with rfl | hl
    · exact hc hp
    · exact hc (mono c t (by have := h.le1; omega) hl hb hp)⟩
/-- The row by index. -/
def dv (T : List Int) (t : Nat) : Int := T.getD t 0
theorem dv_mid {P A Q : List Int} {t : Nat} (h1 : P.length ≤ t) (h2 : t < P.length + A.length) : dv (P ++ A ++ Q) t ∈ A := by
  unfold dv
  rw [List.append_assoc, List.getD_eq_getElem?_getD, List.getElem?_append_right h1, List.getElem?_append_left (by omega), List.getElem?_eq_getElem (by omega), Option.getD_some]
  exact List.getElem_mem _
theorem dv_at {P A Q : List Int} {t : Nat} (h1 : P.length ≤ t) (h2 : t < P.length + A.length) : dv (P ++ A ++ Q) t = A[t - P.length]'(by omega) := by
  unfold dv
  rw [List.append_assoc, List.getD_eq_getElem?_getD, List.getElem?_append_right h1, List.getElem?_append_left (by omega), List.getElem?_eq_getElem (by omega), Option.getD_some]
theorem dv_srt {K : Int → Int} {P A Q : List Int} (h : Srt K A) {s t : Nat} (h1 : P.length ≤ s) (h2 : s < t) (h3 : t < P.length + A.length) : Rr K (dv (P ++ A ++ Q) s) (dv (P ++ A ++ Q) t) := by
  rw [dv_at h1 (by omega), dv_at (by omega) h3]
  exact List.pairwise_iff_getElem.1 h _ _ _ _ (by omega)
/-- Where the run ends the row is cut. -/
theorem mem_take_dv {P A Q : List Int} {k : Nat} {x : Int} (hk : k ≤ A.length) (h : x ∈ A.take k) : ∃ t, P.length ≤ t ∧ t < P.length + k ∧ dv (P ++ A ++ Q) t = x := by
  obtain ⟨n, hn, rfl⟩ := List.getElem_of_mem h
  have hn' : n < k := by rw [List.length_take] at hn; omega
  refine ⟨P.length + n, by omega, by omega, ?_⟩
  rw [dv_at (by omega) (by omega), List.getElem_take]
  congr 1
  omega
theorem mem_drop_dv {P A Q : List Int} {k : Nat} {x : Int} (h : x ∈ A.drop k) : ∃ t, P.length + k ≤ t ∧ t < P.length + A.length ∧ dv (P ++ A ++ Q) t = x := by
  obtain ⟨n, hn, rfl⟩ := List.getElem_of_mem h
  have hn' : k + n < A.length := by rw [List.length_drop] at hn; omega
  refine ⟨P.length + (k + n), by omega, by omega, ?_⟩
  rw [dv_at (by omega) (by omega), List.getElem_drop]
  congr 1
  omega
end Go.Proofs.Ytoncjoelkenjnaa.SS
