/- IndexExact: the texts Bulk of this seat, one behind the other. -/
import Derived.Test.YtknbehjhaaidoaaRows
/- What the bound on the bulk gives: a list's length, a text's length, a part's bulk. -/
namespace Go.Proofs.Ytknbehjhaaidoaa.bulks
variable {H : Type}

theorem pos (d : DataW H) : 0 < Rows.uptoBulk d := by
  rcases d with l | _ | _ | _ | _ | _ | _ | _
  · cases l <;> simp [Rows.uptoBulk]
  all_goals simp [Rows.uptoBulk]

theorem len_all (l : List (DataW H)) : l.length ≤ Rows.uptoBulkAll l := by
  induction l with
  | nil => exact Nat.zero_le _
  | cons d l ih =>
    have := pos d
    simp only [Rows.uptoBulkAll, List.length_cons]
    omega

theorem slice_len (xs ys : List (DataW H)) : xs.length < Rows.uptoBulk (.slice xs ys) := by
  have := len_all xs
  simp only [Rows.uptoBulk]
  omega
theorem slice_all (xs ys : List (DataW H)) : Rows.uptoBulkAll xs < Rows.uptoBulk (.slice xs ys) := by
  simp only [Rows.uptoBulk]
  omega
theorem text_len (bs : List UInt8) : bs.length < Rows.uptoBulk (DataW.lit (H := H) (.string bs)) := by
  simp [Rows.uptoBulk]
theorem one_of {d : DataW H} {l : List (DataW H)} (h : d ∈ l) : Rows.uptoBulk d ≤ Rows.uptoBulkAll l := by
  induction l with
  | nil => cases h
  | cons e l ih =>
    simp only [Rows.uptoBulkAll]
    rcases List.mem_cons.1 h with rfl | h'
    · omega
    · have := ih h'; omega
theorem most {l : List (DataW H)} (h : Rows.uptoSmall H l = true) : Rows.uptoBulkAll l ≤ 1048576 := by
  simpa [Rows.uptoSmall] using h
end Go.Proofs.Ytknbehjhaaidoaa.bulks

