/-
  DERIVED. GIVEN WITH THE SEED: THE CARDS: each row of YtdmfipkmalhngaaDoorRows.lean that lists a variable, with what it lists TIED to the program's text (the seventh form; the later family's looks); each row that meets fmt, with fmt's text TOLD by the authors' own Lean function (tested against real Go, not proved from fmt's source: count such statements apart). THE CARD IS WHAT COUNTS. Prove the row's statement (the work); the ties are given (YtdmfipkmalhngaaDoorTie.lean); close each card by the builder's one call (the guide's Derived/Test/ToyasCard.lean, 'card_holds'). Laid BY PROGRAM, IN A SANDBOX (cutbox-door.mjs). By AI agents, Wed Nov 11 2026. No macro, syntax, notation, axiom, sorry.
-/
import Derived.Test.YtdmfipkmalhngaaDoorRows
import GoSem.ClaimSeven
namespace Go.Proofs.YtdmfipkmalhngaaDoor
namespace Rows

/-- THE TIED CARD OF 'gleanerlaw01.WireFaults'. -/
def wireFaultsCard : Claim7 := { stood := { row := wireFaultsRow, standIns := [], harness := (true, "4c0367222f18fc8cc9b8289b0075d901762f3e43f7b34c03e163d1f9b1ab4d5d"), looks := true }, kinds := [], alts := [], laidByText := true, laidKinds := [.data, .data, .data, .handle], laidTests := true, laidLooks := .later }
def WireFaultsCardSaid : Prop := Claim7.holds Tryd.pinned (.plain (OpenSpec.ofChange wireFaultsSpec)) wireFaultsCard

/-- THE SECOND FORM's CARD OF 'gleanerlaw01.WireFaults'. -/
def wireFaultsUptoCard : Claim7 := { stood := { row := wireFaultsUptoRow, standIns := [], harness := (true, "4c0367222f18fc8cc9b8289b0075d901762f3e43f7b34c03e163d1f9b1ab4d5d"), looks := true }, kinds := [], alts := [], laidByText := true, laidKinds := [.data, .data, .data, .handle], laidTests := true, laidLooks := .later }
def WireFaultsUptoCardSaid : Prop := Claim7.holds Tryd.pinned (.plain (OpenSpec.upto wireFaultsSpec)) wireFaultsUptoCard
end Rows
end Go.Proofs.YtdmfipkmalhngaaDoor
