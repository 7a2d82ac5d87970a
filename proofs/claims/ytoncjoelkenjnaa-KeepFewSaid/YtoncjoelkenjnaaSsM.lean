/- A stable sort by a key, in plain Lean: the order, putting one in, merging two rows. No program. -/
import Derived.Lib.Hide
namespace Go.Proofs.Ytoncjoelkenjnaa.SS
set_option linter.unusedVariables false
set_option linter.unusedSimpArgs false

section
variable (K : Int → Int)
/-- Which stands ahead of which: by the key; of equal ones the less. -/
def Rr (x y : Int) : Prop := K x < K y ∨ (K x = K y ∧ x < y)
def Srt (L : List Int) : Prop := L.Pairwise (Rr K)
variable {K}
theorem Rr.le {x y : Int} (h : Rr K x y) : K x ≤ K y := by rcases h with h | h <;> omega
theorem Rr.trans {x y z : Int} (h : Rr K x y) (h' : Rr K y z) : Rr K x z := by
  rcases h with h | ⟨h, h2⟩ <;> rcases h' with h' | ⟨h', h2'⟩
  · exact .inl (by omega)
  · exact .inl (by omega)
  · exact .inl (by omega)
  · exact .inr ⟨by omega, by omega⟩
theorem srt_last {M : List Int} {y : Int} (h : Srt K (M ++ [y])) : ∀ m ∈ M ++ [y], K m ≤ K y := by
  intro m hm
  rcases List.mem_append.1 hm with hm | hm
  · exact ((List.pairwise_append.1 h).2.2 m hm y (by simp)).le
  · rw [List.mem_singleton.1 hm]; exact Int.le_refl _
/-- One is put in. -/
theorem put_in {M1 M2 : List Int} {x : Int} (h : Srt K (M1 ++ M2)) (h2 : ∀ m ∈ M2, K x < K m) (h1 : ∀ m ∈ M1, m < x) (hs : M1 = [] ∨ ∃ M y, M1 = M ++ [y] ∧ ¬ K x < K y) : Srt K (M1 ++ x :: M2) := by
  obtain ⟨a1, a2, a3⟩ := List.pairwise_append.1 h
  refine List.pairwise_append.2 ⟨a1, List.pairwise_cons.2 ⟨fun m hm => .inl (h2 m hm), a2⟩, fun m hm y hy => ?_⟩
  rcases List.mem_cons.1 hy with rfl | hy
  · rcases hs with rfl | ⟨M, z, rfl, hz⟩
    · cases hm
    · have := srt_last a1 m hm
      rcases Int.lt_or_le (K m) (K y) with c | c
      · exact .inl c
      · exact .inr ⟨by omega, h1 m hm⟩
  · exact a3 m hm y hy
/-- Two rows, cut so that what stands below is ahead of what stands above. -/
theorem merged {A1 A2 B1 B2 M1 M2 : List Int} (hA : Srt K (A1 ++ A2)) (hB : Srt K (B1 ++ B2)) (h1 : M1.Perm (A1 ++ B1)) (h2 : M2.Perm (A2 ++ B2)) (s1 : Srt K M1) (s2 : Srt K M2)
    (hab : ∀ x ∈ A1, ∀ y ∈ B2, Rr K x y) (hba : ∀ x ∈ A2, ∀ y ∈ B1, K y < K x) : Srt K (M1 ++ M2) ∧ (M1 ++ M2).Perm (A1 ++ A2 ++ (B1 ++ B2)) := by
  refine ⟨List.pairwise_append.2 ⟨s1, s2, fun m hm n hn => ?_⟩, ?_⟩
  · rcases List.mem_append.1 (h1.mem_iff.1 hm) with hm | hm <;> rcases List.mem_append.1 (h2.mem_iff.1 hn) with hn | hn
    · exact (List.pairwise_append.1 hA).2.2 m hm n hn
    · exact hab m hm n hn
    · exact .inl (hba n hn m hm)
    · exact (List.pairwise_append.1 hB).2.2 m hm n hn
  · refine (h1.append h2).trans ?_
    rw [List.append_assoc, List.append_assoc]
    refine List.Perm.append_left A1 ?_
    rw [← List.append_assoc, ← List.append_assoc]
    exact List.Perm.append_right B2 List.perm_append_comm
/-- One ahead of a row. -/
theorem merge_left {x : Int} {B1 B2 : List Int} (hB : Srt K (B1 ++ B2)) (h1 : ∀ y ∈ B1, K y < K x) (h2 : ∀ y ∈ B2, Rr K x y) : Srt K (B1 ++ x :: B2) := by
  obtain ⟨a1, a2, a3⟩ := List.pairwise_append.1 hB
  refine List.pairwise_append.2 ⟨a1, List.pairwise_cons.2 ⟨h2, a2⟩, fun m hm y hy => ?_⟩
  rcases List.mem_cons.1 hy with rfl | hy
  · exact .inl (h1 m hm)
  · exact a3 m hm y hy
/-- One behind a row. -/
theorem merge_right {y : Int} {A1 A2 : List Int} (hA : Srt K (A1 ++ A2)) (h1 : ∀ x ∈ A1, Rr K x y) (h2 : ∀ x ∈ A2, K y < K x) : Srt K (A1 ++ y :: A2) := by
  obtain ⟨a1, a2, a3⟩ := List.pairwise_append.1 hA
  refine List.pairwise_append.2 ⟨a1, List.pairwise_cons.2 ⟨fun m hm => .inl (h2 m hm), a2⟩, fun m hm z hz => ?_⟩
  rcases List.mem_cons.1 hz with rfl | hz
  · exact h1 m hm
  · exact a3 m hm z hz
end
end Go.Proofs.Ytoncjoelkenjnaa.SS
