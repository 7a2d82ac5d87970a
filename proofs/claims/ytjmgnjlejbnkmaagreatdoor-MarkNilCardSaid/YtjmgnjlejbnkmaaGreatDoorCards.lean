/-
  DERIVED. GIVEN WITH THE SEED: THE CARDS: each row of YtjmgnjlejbnkmaaGreatDoorRows.lean that lists a variable, with what it lists TIED to the program's text (the seventh form; the later family's looks); each row that meets fmt, with fmt's text TOLD by the authors' own Lean function (tested against real Go, not proved from fmt's source: count such statements apart). THE CARD IS WHAT COUNTS. Prove the row's statement (the work); the ties are given (YtjmgnjlejbnkmaaGreatDoorTie.lean); close each card by the builder's one call (the guide's Derived/Test/ToyasCard.lean, 'card_holds'). Laid BY PROGRAM, IN A SANDBOX (cutbox-door.mjs). By AI agents, Wed Nov 11 2026. No macro, syntax, notation, axiom, sorry.
-/
import Derived.Test.YtjmgnjlejbnkmaaGreatDoorRows
import GoSem.ClaimSeven
namespace Go.Proofs.YtjmgnjlejbnkmaaGreatDoor
namespace Rows

/-- THE TIED CARD OF 'gleanerlaw16.MarkNil'. -/
def markNilCard : Claim7 := { stood := { row := markNilRow, standIns := [], harness := (true, "0e28d3de6800a3011fba0a3928fdf05e7f81e269fad22b0eb26787c898defe02"), looks := false }, kinds := [], alts := [], laidByText := true, laidKinds := [.data, .pinned], laidTests := true, laidLooks := .later }
def MarkNilCardSaid : Prop := Claim7.holds Tryz.pinned (.plain (OpenSpec.ofChange markNilSpec)) markNilCard

/-- THE SECOND FORM's CARD OF 'gleanerlaw16.MarkNil'. -/
def markNilUptoCard : Claim7 := { stood := { row := markNilUptoRow, standIns := [], harness := (true, "0e28d3de6800a3011fba0a3928fdf05e7f81e269fad22b0eb26787c898defe02"), looks := false }, kinds := [], alts := [], laidByText := true, laidKinds := [.data, .pinned], laidTests := true, laidLooks := .later }
def MarkNilUptoCardSaid : Prop := Claim7.holds Tryz.pinned (.plain (OpenSpec.upto markNilSpec)) markNilUptoCard
end Rows
end Go.Proofs.YtjmgnjlejbnkmaaGreatDoor
