/-
  DERIVED. GIVEN WITH THE SEED: THE CARDS: each row of YtcpflggjolkjgaaGreatDoorRows.lean that lists a variable, with what it lists TIED to the program's text (the seventh form; the later family's looks); each row that meets fmt, with fmt's text TOLD by the authors' own Lean function (tested against real Go, not proved from fmt's source: count such statements apart). THE CARD IS WHAT COUNTS. Prove the row's statement (the work); the ties are given (YtcpflggjolkjgaaGreatDoorTie.lean); close each card by the builder's one call (the guide's Derived/Test/ToyasCard.lean, 'card_holds'). Laid BY PROGRAM, IN A SANDBOX (cutbox-door.mjs). By AI agents, Wed Nov 11 2026. No macro, syntax, notation, axiom, sorry.
-/
import Derived.Test.YtcpflggjolkjgaaGreatDoorRows
import GoSem.ClaimSeven
namespace Go.Proofs.YtcpflggjolkjgaaGreatDoor
namespace Rows

/-- THE TIED CARD OF 'gleanerlaw19.CycleNil'. -/
def cycleNilCard : Claim7 := { stood := { row := cycleNilRow, standIns := [], harness := (true, "75a5a632aa543bbb6410a75f8ecd9fd9c4f6e2327fa49563254c038110ae75b3"), looks := false }, kinds := [], alts := [], laidByText := true, laidKinds := [.data, .data, .pinned], laidTests := true, laidLooks := .later }
def CycleNilCardSaid : Prop := Claim7.holds Tryz.pinned (.plain (OpenSpec.ofChange cycleNilSpec)) cycleNilCard

/-- THE SECOND FORM's CARD OF 'gleanerlaw19.CycleNil'. -/
def cycleNilUptoCard : Claim7 := { stood := { row := cycleNilUptoRow, standIns := [], harness := (true, "75a5a632aa543bbb6410a75f8ecd9fd9c4f6e2327fa49563254c038110ae75b3"), looks := false }, kinds := [], alts := [], laidByText := true, laidKinds := [.data, .data, .pinned], laidTests := true, laidLooks := .later }
def CycleNilUptoCardSaid : Prop := Claim7.holds Tryz.pinned (.plain (OpenSpec.upto cycleNilSpec)) cycleNilUptoCard
end Rows
end Go.Proofs.YtcpflggjolkjgaaGreatDoor
