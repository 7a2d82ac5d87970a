/-
  No cell of these rows narrows 'for every input' (looked for: loops, veiled, ifaces, maps, wideKeys, modest, calm, conditions, laid).
  DERIVED. THE GIVEN ROWS OF THIS SEAT. 6 by the template 'for every input the law returns true; each argument reads behind the call as it read before'; 0 by the template 'total and deterministic' (their statements: YtoncjoelkenjnaaTotals.lean).
  GIVEN WITH THE SEED: the statements are not yours to turn. If you find one false, say at which input.
  Laid BY PROGRAM, IN A SANDBOX (cutbox-rows.mjs): the forced cells as the released guide's own fill.sh prints them over the translation 82c36424701ca9d5… (all of the seat's roots in one cut). By AI agents, Wed Nov 11 2026. No macro, syntax, notation, axiom, sorry.
-/
import Derived.Test.YtoncjoelkenjnaaChecked
import GoSem.Claim
import GoSem.ClaimJoined
import GoSem.ClaimMapViews
import Derived.JoinedTies
import Derived.KernelRfl
namespace Go.Proofs.Ytoncjoelkenjnaa
/- THE CELL 'sum', in the pinned program and in every row, IS THE sha256 OF THE DUMP (.gsa) THAT YtoncjoelkenjnaaProg.lean LOADS. Nothing in Lean hashes anything: it is a label: what it is worth is what the hold of that sum in a sandbox is worth. -/
noncomputable def Try.pinned : Pinned := { name := "ytoncjoelkenjnaa", sum := "82c36424701ca9d5af3b7c49a371b1b8168f7662714c0896009a48c432095745", checked := Try.checked }
namespace Rows
def none {H : Type} : Left H := { results := [], args := [] }

/-- 'gleanerlaw28.KeepWastes': WHATEVER THE INPUT: true; the input reads as it did. -/
def keepWastesSpec : ChangeSpec := { name := "keepWastes", fn := fun _ => fun
  | [d] => { results := [.lit (.bool true)], args := [d] }
  | _ => none }
def keepWastesRow : OpenClaim := { program := "ytoncjoelkenjnaa", sum := "82c36424701ca9d5af3b7c49a371b1b8168f7662714c0896009a48c432095745", func := "gleaner/gleanerlaw28.KeepWastes", spec := "keepWastes", inPlace := ["math.Float64frombits"], apart := false }
def KeepWastesSaid : Prop := keepWastesRow.holds Try.pinned (OpenSpec.ofChange keepWastesSpec)

/-- ITS FALSE NEIGHBOUR: 'it returns false'. Refute it at one input. -/
def keepWastesWrong : ChangeSpec := { name := "keepWastes", fn := fun _ => fun
  | [d] => { results := [.lit (.bool false)], args := [d] }
  | _ => none }
def KeepWastesWrongFalsely : Prop := keepWastesRow.holds Try.pinned (OpenSpec.ofChange keepWastesWrong)

/-- 'gleanerlaw28.KeepTimes': WHATEVER THE INPUT: true; the input reads as it did. -/
def keepTimesSpec : ChangeSpec := { name := "keepTimes", fn := fun _ => fun
  | [d] => { results := [.lit (.bool true)], args := [d] }
  | _ => none }
def keepTimesRow : OpenClaim := { program := "ytoncjoelkenjnaa", sum := "82c36424701ca9d5af3b7c49a371b1b8168f7662714c0896009a48c432095745", func := "gleaner/gleanerlaw28.KeepTimes", spec := "keepTimes", apart := false }
def KeepTimesSaid : Prop := keepTimesRow.holds Try.pinned (OpenSpec.ofChange keepTimesSpec)

/-- ITS FALSE NEIGHBOUR: 'it returns false'. Refute it at one input. -/
def keepTimesWrong : ChangeSpec := { name := "keepTimes", fn := fun _ => fun
  | [d] => { results := [.lit (.bool false)], args := [d] }
  | _ => none }
def KeepTimesWrongFalsely : Prop := keepTimesRow.holds Try.pinned (OpenSpec.ofChange keepTimesWrong)

/-- 'gleanerlaw28.KeepDays': WHATEVER THE INPUT: true; the input reads as it did. -/
def keepDaysSpec : ChangeSpec := { name := "keepDays", fn := fun _ => fun
  | [d] => { results := [.lit (.bool true)], args := [d] }
  | _ => none }
def keepDaysRow : OpenClaim := { program := "ytoncjoelkenjnaa", sum := "82c36424701ca9d5af3b7c49a371b1b8168f7662714c0896009a48c432095745", func := "gleaner/gleanerlaw28.KeepDays", spec := "keepDays", apart := false }
def KeepDaysSaid : Prop := keepDaysRow.holds Try.pinned (OpenSpec.ofChange keepDaysSpec)

/-- ITS FALSE NEIGHBOUR: 'it returns false'. Refute it at one input. -/
def keepDaysWrong : ChangeSpec := { name := "keepDays", fn := fun _ => fun
  | [d] => { results := [.lit (.bool false)], args := [d] }
  | _ => none }
def KeepDaysWrongFalsely : Prop := keepDaysRow.holds Try.pinned (OpenSpec.ofChange keepDaysWrong)

/-- 'gleanerlaw28.KeepCalendar': WHATEVER THE INPUT: true; the input reads as it did. -/
def keepCalendarSpec : ChangeSpec := { name := "keepCalendar", fn := fun _ => fun
  | [d] => { results := [.lit (.bool true)], args := [d] }
  | _ => none }
def keepCalendarRow : OpenClaim := { program := "ytoncjoelkenjnaa", sum := "82c36424701ca9d5af3b7c49a371b1b8168f7662714c0896009a48c432095745", func := "gleaner/gleanerlaw28.KeepCalendar", spec := "keepCalendar", apart := false }
def KeepCalendarSaid : Prop := keepCalendarRow.holds Try.pinned (OpenSpec.ofChange keepCalendarSpec)

/-- ITS FALSE NEIGHBOUR: 'it returns false'. Refute it at one input. -/
def keepCalendarWrong : ChangeSpec := { name := "keepCalendar", fn := fun _ => fun
  | [d] => { results := [.lit (.bool false)], args := [d] }
  | _ => none }
def KeepCalendarWrongFalsely : Prop := keepCalendarRow.holds Try.pinned (OpenSpec.ofChange keepCalendarWrong)

/-- 'gleanerlaw28.KeepPlans': WHATEVER THE INPUT: true; the input reads as it did. -/
def keepPlansSpec : ChangeSpec := { name := "keepPlans", fn := fun _ => fun
  | [d1, d2] => { results := [.lit (.bool true)], args := [d1, d2] }
  | _ => none }
def keepPlansRow : OpenClaim := { program := "ytoncjoelkenjnaa", sum := "82c36424701ca9d5af3b7c49a371b1b8168f7662714c0896009a48c432095745", func := "gleaner/gleanerlaw28.KeepPlans", spec := "keepPlans", unfollowed := true, recurses := true, apart := false }
def KeepPlansSaid : Prop := keepPlansRow.holds Try.pinned (OpenSpec.ofChange keepPlansSpec)

/-- ITS FALSE NEIGHBOUR: 'it returns false'. Refute it at one input. -/
def keepPlansWrong : ChangeSpec := { name := "keepPlans", fn := fun _ => fun
  | [d1, d2] => { results := [.lit (.bool false)], args := [d1, d2] }
  | _ => none }
def KeepPlansWrongFalsely : Prop := keepPlansRow.holds Try.pinned (OpenSpec.ofChange keepPlansWrong)

/-- 'gleanerlaw28.KeepFew': WHATEVER THE INPUT: true; the input reads as it did. -/
def keepFewSpec : ChangeSpec := { name := "keepFew", fn := fun _ => fun
  | [d1, d2, d3] => { results := [.lit (.bool true)], args := [d1, d2, d3] }
  | _ => none }
def keepFewRow : OpenClaim := { program := "ytoncjoelkenjnaa", sum := "82c36424701ca9d5af3b7c49a371b1b8168f7662714c0896009a48c432095745", func := "gleaner/gleanerlaw28.KeepFew", spec := "keepFew", unfollowed := true, recurses := true, apart := false }
def KeepFewSaid : Prop := keepFewRow.holds Try.pinned (OpenSpec.ofChange keepFewSpec)

/-- ITS FALSE NEIGHBOUR: 'it returns false'. Refute it at one input. -/
def keepFewWrong : ChangeSpec := { name := "keepFew", fn := fun _ => fun
  | [d1, d2, d3] => { results := [.lit (.bool false)], args := [d1, d2, d3] }
  | _ => none }
def KeepFewWrongFalsely : Prop := keepFewRow.holds Try.pinned (OpenSpec.ofChange keepFewWrong)

/- THE SECOND FORM. 'bulk': how many values and letters a reading holds, each counted each time it is reached (what is shared counts as often as it is met; a slice's spare places count too). A statement '..UptoSaid' is the law's where the arguments, and the package variables that the reading takes, are together of bulk at most 1048576: NARROWER than '..Said'. Prove '..Said' where nothing that the law and all that it calls make is longer than what came in: it says more and counts as full. Else prove '..UptoSaid'. A law counts once. -/
mutual
def uptoBulk {H : Type} : DataW H → Nat
  | .lit (.string bytes) => bytes.length + 1
  | .lit _ => 1
  | .nil => 1
  | .ptr d => uptoBulk d + 1
  | .slice elems spare => uptoBulkAll elems + uptoBulkAll spare + 1
  | .agg parts => uptoBulkAll parts + 1
  | .iface _ d => uptoBulk d + 1
  | .map entries => uptoBulkEntries entries + 1
  | .held _ => 1
def uptoBulkAll {H : Type} : List (DataW H) → Nat
  | [] => 0
  | d :: r => uptoBulk d + uptoBulkAll r
def uptoBulkEntries {H : Type} : List (Lit × DataW H) → Nat
  | [] => 0
  | x :: r => uptoBulkEntry x + uptoBulkEntries r
def uptoBulkEntry {H : Type} : Lit × DataW H → Nat
  | (.string bytes, d) => bytes.length + uptoBulk d + 1
  | (_, d) => uptoBulk d + 1
 end
def uptoSmall : (H : Type) → List (DataW H) → Bool := fun _ ds => decide (uptoBulkAll ds ≤ 1048576)
def OpenSpec.upto (s : _root_.Go.ChangeSpec) : _root_.Go.OpenSpec := { _root_.Go.OpenSpec.ofChange s with cond := some uptoSmall }

/-- 'gleanerlaw28.KeepWastes', WHERE WHAT IT READS IS OF BULK AT MOST 1048576: true; the input reads as it did. -/
def keepWastesUptoRow : OpenClaim := { program := "ytoncjoelkenjnaa", sum := "82c36424701ca9d5af3b7c49a371b1b8168f7662714c0896009a48c432095745", func := "gleaner/gleanerlaw28.KeepWastes", spec := "keepWastes", inPlace := ["math.Float64frombits"], apart := false, narrowed := true }
def KeepWastesUptoSaid : Prop := keepWastesUptoRow.holds Try.pinned (OpenSpec.upto keepWastesSpec)

/-- 'gleanerlaw28.KeepTimes', WHERE WHAT IT READS IS OF BULK AT MOST 1048576: true; the input reads as it did. -/
def keepTimesUptoRow : OpenClaim := { program := "ytoncjoelkenjnaa", sum := "82c36424701ca9d5af3b7c49a371b1b8168f7662714c0896009a48c432095745", func := "gleaner/gleanerlaw28.KeepTimes", spec := "keepTimes", apart := false, narrowed := true }
def KeepTimesUptoSaid : Prop := keepTimesUptoRow.holds Try.pinned (OpenSpec.upto keepTimesSpec)

/-- 'gleanerlaw28.KeepDays', WHERE WHAT IT READS IS OF BULK AT MOST 1048576: true; the input reads as it did. -/
def keepDaysUptoRow : OpenClaim := { program := "ytoncjoelkenjnaa", sum := "82c36424701ca9d5af3b7c49a371b1b8168f7662714c0896009a48c432095745", func := "gleaner/gleanerlaw28.KeepDays", spec := "keepDays", apart := false, narrowed := true }
def KeepDaysUptoSaid : Prop := keepDaysUptoRow.holds Try.pinned (OpenSpec.upto keepDaysSpec)

/-- 'gleanerlaw28.KeepCalendar', WHERE WHAT IT READS IS OF BULK AT MOST 1048576: true; the input reads as it did. -/
def keepCalendarUptoRow : OpenClaim := { program := "ytoncjoelkenjnaa", sum := "82c36424701ca9d5af3b7c49a371b1b8168f7662714c0896009a48c432095745", func := "gleaner/gleanerlaw28.KeepCalendar", spec := "keepCalendar", apart := false, narrowed := true }
def KeepCalendarUptoSaid : Prop := keepCalendarUptoRow.holds Try.pinned (OpenSpec.upto keepCalendarSpec)

/-- 'gleanerlaw28.KeepPlans', WHERE WHAT IT READS IS OF BULK AT MOST 1048576: true; the input reads as it did. -/
def keepPlansUptoRow : OpenClaim := { program := "ytoncjoelkenjnaa", sum := "82c36424701ca9d5af3b7c49a371b1b8168f7662714c0896009a48c432095745", func := "gleaner/gleanerlaw28.KeepPlans", spec := "keepPlans", unfollowed := true, recurses := true, apart := false, narrowed := true }
def KeepPlansUptoSaid : Prop := keepPlansUptoRow.holds Try.pinned (OpenSpec.upto keepPlansSpec)

/-- 'gleanerlaw28.KeepFew', WHERE WHAT IT READS IS OF BULK AT MOST 1048576: true; the input reads as it did. -/
def keepFewUptoRow : OpenClaim := { program := "ytoncjoelkenjnaa", sum := "82c36424701ca9d5af3b7c49a371b1b8168f7662714c0896009a48c432095745", func := "gleaner/gleanerlaw28.KeepFew", spec := "keepFew", unfollowed := true, recurses := true, apart := false, narrowed := true }
def KeepFewUptoSaid : Prop := keepFewUptoRow.holds Try.pinned (OpenSpec.upto keepFewSpec)

end Rows
end Go.Proofs.Ytoncjoelkenjnaa
