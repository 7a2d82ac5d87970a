/-
  DERIVED. GIVEN WITH THE SEED: THE CARDS: each row of YtoncjoelkenjnaaDoorRows.lean that lists a variable, with what it lists TIED to the program's text (the seventh form; the later family's looks); each row that meets fmt, with fmt's text TOLD by the authors' own Lean function (tested against real Go, not proved from fmt's source: count such statements apart). THE CARD IS WHAT COUNTS. Prove the row's statement (the work); the ties are given (YtoncjoelkenjnaaDoorTie.lean); close each card by the builder's one call (the guide's Derived/Test/ToyasCard.lean, 'card_holds'). Laid BY PROGRAM, IN A SANDBOX (cutbox-door.mjs). By AI agents, Wed Nov 11 2026. No macro, syntax, notation, axiom, sorry.
-/
import Derived.Test.YtoncjoelkenjnaaDoorRows
import GoSem.ClaimSeven
namespace Go.Proofs.YtoncjoelkenjnaaDoor
namespace Rows

/-- THE TIED CARD OF 'gleanerlaw28.KeepPrints'. -/
def keepPrintsCard : Claim7 := { stood := { row := keepPrintsRow, standIns := [], harness := (true, "e4eb25f863e2e775471071a2aed9ac2a8011256e7d59b88da1000e5df9cb3511"), looks := true }, kinds := [], alts := [], laidByText := true, laidKinds := [.data, .data, .data, .data, .sentinel, .sentinel, .pinned], laidTests := true, laidLooks := .later }
def KeepPrintsCardSaid : Prop := Claim7.holds Tryd.pinned (.plain (OpenSpec.ofChange keepPrintsSpec)) keepPrintsCard

/-- THE TIED CARD OF 'gleanerlaw28.KeepParses'. -/
def keepParsesCard : Claim7 := { stood := { row := keepParsesRow, standIns := [], harness := (true, "e4eb25f863e2e775471071a2aed9ac2a8011256e7d59b88da1000e5df9cb3511"), looks := true }, kinds := [], alts := [], laidByText := true, laidKinds := [.data, .data, .data, .data, .sentinel, .sentinel, .pinned], laidTests := true, laidLooks := .later }
def KeepParsesCardSaid : Prop := Claim7.holds Tryd.pinned (.plain (OpenSpec.ofChange keepParsesSpec)) keepParsesCard

/-- THE SECOND FORM's CARD OF 'gleanerlaw28.KeepPrints'. -/
def keepPrintsUptoCard : Claim7 := { stood := { row := keepPrintsUptoRow, standIns := [], harness := (true, "e4eb25f863e2e775471071a2aed9ac2a8011256e7d59b88da1000e5df9cb3511"), looks := true }, kinds := [], alts := [], laidByText := true, laidKinds := [.data, .data, .data, .data, .sentinel, .sentinel, .pinned], laidTests := true, laidLooks := .later }
def KeepPrintsUptoCardSaid : Prop := Claim7.holds Tryd.pinned (.plain (OpenSpec.upto keepPrintsSpec)) keepPrintsUptoCard

/-- THE SECOND FORM's CARD OF 'gleanerlaw28.KeepParses'. -/
def keepParsesUptoCard : Claim7 := { stood := { row := keepParsesUptoRow, standIns := [], harness := (true, "e4eb25f863e2e775471071a2aed9ac2a8011256e7d59b88da1000e5df9cb3511"), looks := true }, kinds := [], alts := [], laidByText := true, laidKinds := [.data, .data, .data, .data, .sentinel, .sentinel, .pinned], laidTests := true, laidLooks := .later }
def KeepParsesUptoCardSaid : Prop := Claim7.holds Tryd.pinned (.plain (OpenSpec.upto keepParsesSpec)) keepParsesUptoCard
end Rows
end Go.Proofs.YtoncjoelkenjnaaDoor
