/- A path cut into names, in plain Lean; strings.Split's own words say the same. -/
import Derived.Test.YtimmhinpdfpokaaDoorSpC
import Derived.Lib.SplitLaws
namespace Go.Proofs.YtimmhinpdfpokaaDoor.SP
open Go.Lib
set_option linter.unusedVariables false
set_option linter.unusedSimpArgs false

/-- Put in front of the first one. -/
def onto (cur : List UInt8) : List (List UInt8) → List (List UInt8)
  | [] => [cur]
  | x :: xs => (cur ++ x) :: xs
/-- The names between the slashes. -/
def cuts : List UInt8 → List (List UInt8)
  | [] => [[]]
  | b :: t => if b = 47 then [] :: cuts t else onto [b] (cuts t)
theorem cuts_ne (l : List UInt8) : cuts l ≠ [] := by
  cases l with
  | nil => simp [cuts]
  | cons b t =>
    unfold cuts
    split
    · simp
    · cases cuts t <;> simp [onto]
theorem onto_nil {x : List (List UInt8)} (h : x ≠ []) : onto [] x = x := by
  cases x with
  | nil => exact absurd rfl h
  | cons a t => rfl
theorem onto_onto (a b : List UInt8) (x : List (List UInt8)) : onto a (onto b x) = onto (a ++ b) x := by
  cases x <;> simp [onto]
theorem onto_slash (cur t : List UInt8) : onto cur (cuts (47 :: t)) = cur :: cuts t := by
  simp [cuts, onto]
theorem onto_other (cur : List UInt8) (b : UInt8) (t : List UInt8) (h : b ≠ 47) : onto cur (cuts (b :: t)) = onto (cur ++ [b]) (cuts t) := by
  rw [cuts, if_neg h, onto_onto]
theorem onto_end (cur : List UInt8) : onto cur (cuts []) = [cur] := by simp [cuts, onto]

theorem splitK_cons (c b : UInt8) (hb : b ≠ c) : ∀ (k : Nat) (t : List UInt8), splitK [c] 0 k (b :: t) = onto [b] (splitK [c] 0 k t)
  | 0, t => rfl
  | k + 1, t => by
    have hp : [c].isPrefixOf (b :: t) = false := by simp [List.isPrefixOf]; intro h; exact hb h.symm
    unfold splitK
    rw [index, hp]
    have hge := index_ge t [c]
    by_cases h1 : (index t [c] == -1) = true
    · simp only [h1, if_true, Bool.false_eq_true, if_false]
      simp [onto]
    · have h1' : (index t [c] == -1) = false := by simpa using h1
      have h2 : (index t [c] + 1 == -1) = false := by simp at h1 ⊢; omega
      simp only [h1', h2, Bool.false_eq_true, if_false]
      have e1 : (index t [c] + 1).toNat = (index t [c]).toNat + 1 := by simp at h1; omega
      rw [e1]
      simp [onto]
theorem splitK_cuts : ∀ l : List UInt8, splitK [47] 0 (l.count 47) l = cuts l
  | [] => rfl
  | b :: t => by
    by_cases hb : b = 47
    · subst hb
      rw [List.count_cons_self, splitK, cuts, if_pos rfl]
      have : index (47 :: t) [47] = 0 := by simp [index, List.isPrefixOf]
      rw [this]
      simp
      exact splitK_cuts t
    · rw [List.count_cons_of_ne hb, splitK_cons 47 b hb, splitK_cuts t, cuts, if_neg hb]
/-- What strings.Split answers. -/
theorem splitB_cuts (l : List UInt8) : splitB (sv [47]) 0 (countB (sv l) (sv [47])) (sv l) = (cuts l).map sv := by
  have hc : countB (sv l) (sv [47]) = l.count 47 := by
    show count (sv l).data.toList (sv [47]).data.toList = _
    simp only [sv]
    exact count_one 47 l
  have h := splitB_data (sv [47]) 0 (countB (sv l) (sv [47])) (sv l)
  rw [hc] at h ⊢
  have h2 : (splitB (sv [47]) 0 (l.count 47) (sv l)).map (·.data.toList) = cuts l := by
    rw [h]; simp only [sv]; exact splitK_cuts l
  rw [← h2, List.map_map]
  conv => lhs; rw [← List.map_id (splitB (sv [47]) 0 (l.count 47) (sv l))]
  apply List.map_congr_left
  intro x _
  cases x with
  | mk d => simp [sv]
theorem countB_cuts (l : List UInt8) : countB (sv l) (sv [47]) + 1 = (cuts l).length := by
  have h := splitB_all (sv [47]) (by rw [sv_size]; simp) 0 _ (sv l) rfl
  rw [splitB_cuts, List.length_map] at h
  exact h.symm
theorem onto_length (a : List UInt8) {x : List (List UInt8)} (h : x ≠ []) : (onto a x).length = x.length := by
  cases x with
  | nil => exact absurd rfl h
  | cons => rfl
theorem cuts_length : ∀ l : List UInt8, (cuts l).length ≤ l.length + 1
  | [] => by simp [cuts]
  | b :: t => by
    have := cuts_length t
    unfold cuts
    split
    · simp; omega
    · rw [onto_length _ (cuts_ne t)]; simp; omega
theorem onto_size {a : List UInt8} {n : Nat} {x : List (List UInt8)} (h : ∀ y ∈ x, y.length ≤ n) : ∀ y ∈ onto a x, y.length ≤ a.length + n := by
  cases x with
  | nil => intro y hy; simp [onto] at hy; subst hy; omega
  | cons z t =>
    intro y hy
    simp [onto] at hy
    rcases hy with rfl | hy
    · have := h z (by simp); simp; omega
    · have := h y (by simp [hy]); omega
theorem cuts_size : ∀ (l : List UInt8), ∀ y ∈ cuts l, y.length ≤ l.length
  | [], y, hy => by simp [cuts] at hy; subst hy; simp
  | b :: t, y, hy => by
    have ih := cuts_size t
    unfold cuts at hy
    split at hy
    · simp at hy
      rcases hy with rfl | hy
      · simp
      · have := ih y hy; simp; omega
    · have := onto_size (a := [b]) ih y hy
      simp at this ⊢; omega

/-- What Split answers: the names (none: nil), and the error's number. -/
def good (l : List UInt8) : Bool := decide (l ≠ []) && decide (l.length ≤ 4096) && decide ((cuts l).length ≤ 64) && (cuts l).all named
def parts (l : List UInt8) : List (List UInt8) := if good l = true then cuts l else []
def codeOf (l : List UInt8) : Int := if l = [] ∨ good l = true then 0 else 250
end Go.Proofs.YtimmhinpdfpokaaDoor.SP
