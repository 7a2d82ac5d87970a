/-
  DERIVED. GIVEN WITH THE SEED: THE CARDS: each row of YtaflodfngcgmbaaGreatDoorRows.lean that lists a variable, with what it lists TIED to the program's text (the seventh form; the later family's looks); each row that meets fmt, with fmt's text TOLD by the authors' own Lean function (tested against real Go, not proved from fmt's source: count such statements apart). THE CARD IS WHAT COUNTS. Prove the row's statement (the work); the ties are given (YtaflodfngcgmbaaGreatDoorTie.lean); close each card by the builder's one call (the guide's Derived/Test/ToyasCard.lean, 'card_holds'). Laid BY PROGRAM, IN A SANDBOX (cutbox-door.mjs). By AI agents, Wed Nov 11 2026. No macro, syntax, notation, axiom, sorry.
-/
import Derived.Test.YtaflodfngcgmbaaGreatDoorRows
import GoSem.ClaimSeven
namespace Go.Proofs.YtaflodfngcgmbaaGreatDoor
namespace Rows

/-- THE TIED CARD OF 'gleanerlaw25.DirNil'. -/
def dirNilCard : Claim7 := { stood := { row := dirNilRow, standIns := [], harness := (true, "2b22ad337ee369659d97b5ebade12342db8e0e8992b88ba182c13a5e9ece6b3b"), looks := false }, kinds := [], alts := [], laidByText := true, laidKinds := [.data, .data, .pinned], laidTests := true, laidLooks := .later }
def DirNilCardSaid : Prop := Claim7.holds Tryz.pinned (.plain (OpenSpec.ofChange dirNilSpec)) dirNilCard

/-- THE SECOND FORM's CARD OF 'gleanerlaw25.DirNil'. -/
def dirNilUptoCard : Claim7 := { stood := { row := dirNilUptoRow, standIns := [], harness := (true, "2b22ad337ee369659d97b5ebade12342db8e0e8992b88ba182c13a5e9ece6b3b"), looks := false }, kinds := [], alts := [], laidByText := true, laidKinds := [.data, .data, .pinned], laidTests := true, laidLooks := .later }
def DirNilUptoCardSaid : Prop := Claim7.holds Tryz.pinned (.plain (OpenSpec.upto dirNilSpec)) dirNilUptoCard
end Rows
end Go.Proofs.YtaflodfngcgmbaaGreatDoor
