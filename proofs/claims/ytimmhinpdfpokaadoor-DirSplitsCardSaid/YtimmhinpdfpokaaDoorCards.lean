/-
  DERIVED. GIVEN WITH THE SEED: THE CARDS: each row of YtimmhinpdfpokaaDoorRows.lean that lists a variable, with what it lists TIED to the program's text (the seventh form; the later family's looks); each row that meets fmt, with fmt's text TOLD by the authors' own Lean function (tested against real Go, not proved from fmt's source: count such statements apart). THE CARD IS WHAT COUNTS. Prove the row's statement (the work); the ties are given (YtimmhinpdfpokaaDoorTie.lean); close each card by the builder's one call (the guide's Derived/Test/ToyasCard.lean, 'card_holds'). Laid BY PROGRAM, IN A SANDBOX (cutbox-door.mjs). By AI agents, Wed Nov 11 2026. No macro, syntax, notation, axiom, sorry.
-/
import Derived.Test.YtimmhinpdfpokaaDoorRows
import GoSem.ClaimSeven
namespace Go.Proofs.YtimmhinpdfpokaaDoor
namespace Rows

/-- THE TIED CARD OF 'gleanerlaw25.DirSplits'. -/
def dirSplitsCard : Claim7 := { stood := { row := dirSplitsRow, standIns := [], harness := (true, "d1ce09165e498d40f78e6e1de6542f27ed9cfe3607e8988205fb043f778c0d07"), looks := false }, kinds := [], alts := [], laidByText := true, laidKinds := [.data, .pinned], laidTests := true, laidLooks := .later }
def DirSplitsCardSaid : Prop := Claim7.holds Tryd.pinned (.plain (OpenSpec.ofChange dirSplitsSpec)) dirSplitsCard

/-- THE SECOND FORM's CARD OF 'gleanerlaw25.DirSplits'. -/
def dirSplitsUptoCard : Claim7 := { stood := { row := dirSplitsUptoRow, standIns := [], harness := (true, "d1ce09165e498d40f78e6e1de6542f27ed9cfe3607e8988205fb043f778c0d07"), looks := false }, kinds := [], alts := [], laidByText := true, laidKinds := [.data, .pinned], laidTests := true, laidLooks := .later }
def DirSplitsUptoCardSaid : Prop := Claim7.holds Tryd.pinned (.plain (OpenSpec.upto dirSplitsSpec)) dirSplitsUptoCard
end Rows
end Go.Proofs.YtimmhinpdfpokaaDoor
