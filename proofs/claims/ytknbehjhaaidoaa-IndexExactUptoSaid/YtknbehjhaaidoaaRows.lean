/-
  No cell of these rows narrows 'for every input' (looked for: loops, veiled, ifaces, maps, wideKeys, modest, calm, conditions, laid).
  DERIVED. THE GIVEN ROWS OF THIS SEAT. 4 by the template 'for every input the law returns true; each argument reads behind the call as it read before'; 0 by the template 'total and deterministic' (their statements: YtknbehjhaaidoaaTotals.lean).
  GIVEN WITH THE SEED: the statements are not yours to turn. If you find one false, say at which input.
  Laid BY PROGRAM, IN A SANDBOX (cutbox-rows.mjs): the forced cells as the released guide's own fill.sh prints them over the translation c48db674c5d5d49c… (all of the seat's roots in one cut). By AI agents, Wed Nov 11 2026. No macro, syntax, notation, axiom, sorry.
-/
import Derived.Test.YtknbehjhaaidoaaChecked
import GoSem.Claim
import GoSem.ClaimJoined
import GoSem.ClaimMapViews
import Derived.JoinedTies
import Derived.KernelRfl
namespace Go.Proofs.Ytknbehjhaaidoaa
/- THE CELL 'sum', in the pinned program and in every row, IS THE sha256 OF THE DUMP (.gsa) THAT YtknbehjhaaidoaaProg.lean LOADS. Nothing in Lean hashes anything: it is a label: what it is worth is what the hold of that sum in a sandbox is worth. -/
noncomputable def Try.pinned : Pinned := { name := "ytknbehjhaaidoaa", sum := "c48db674c5d5d49cf4464e8284ecad98d8414c2173f2fb3c01eb1ee6554451d7", checked := Try.checked }
namespace Rows
def none {H : Type} : Left H := { results := [], args := [] }

/-- 'gleanerlaw15.GreyOrder': WHATEVER THE INPUT: true; the input reads as it did. -/
def greyOrderSpec : ChangeSpec := { name := "greyOrder", fn := fun _ => fun
  | [d1, d2, d3] => { results := [.lit (.bool true)], args := [d1, d2, d3] }
  | _ => none }
def greyOrderRow : OpenClaim := { program := "ytknbehjhaaidoaa", sum := "c48db674c5d5d49cf4464e8284ecad98d8414c2173f2fb3c01eb1ee6554451d7", func := "gleaner/gleanerlaw15.GreyOrder", spec := "greyOrder", apart := false }
def GreyOrderSaid : Prop := greyOrderRow.holds Try.pinned (OpenSpec.ofChange greyOrderSpec)

/-- ITS FALSE NEIGHBOUR: 'it returns false'. Refute it at one input. -/
def greyOrderWrong : ChangeSpec := { name := "greyOrder", fn := fun _ => fun
  | [d1, d2, d3] => { results := [.lit (.bool false)], args := [d1, d2, d3] }
  | _ => none }
def GreyOrderWrongFalsely : Prop := greyOrderRow.holds Try.pinned (OpenSpec.ofChange greyOrderWrong)

/-- 'gleanerlaw15.GreyList': WHATEVER THE INPUT: true; the input reads as it did. -/
def greyListSpec : ChangeSpec := { name := "greyList", fn := fun _ => fun
  | [d] => { results := [.lit (.bool true)], args := [d] }
  | _ => none }
def greyListRow : OpenClaim := { program := "ytknbehjhaaidoaa", sum := "c48db674c5d5d49cf4464e8284ecad98d8414c2173f2fb3c01eb1ee6554451d7", func := "gleaner/gleanerlaw15.GreyList", spec := "greyList", apart := false }
def GreyListSaid : Prop := greyListRow.holds Try.pinned (OpenSpec.ofChange greyListSpec)

/-- ITS FALSE NEIGHBOUR: 'it returns false'. Refute it at one input. -/
def greyListWrong : ChangeSpec := { name := "greyList", fn := fun _ => fun
  | [d] => { results := [.lit (.bool false)], args := [d] }
  | _ => none }
def GreyListWrongFalsely : Prop := greyListRow.holds Try.pinned (OpenSpec.ofChange greyListWrong)

/-- 'gleanerlaw12.IndexSweep': WHATEVER THE INPUT: true; the input reads as it did. -/
def indexSweepSpec : ChangeSpec := { name := "indexSweep", fn := fun _ => fun
  | [d] => { results := [.lit (.bool true)], args := [d] }
  | _ => none }
def indexSweepRow : OpenClaim := { program := "ytknbehjhaaidoaa", sum := "c48db674c5d5d49cf4464e8284ecad98d8414c2173f2fb3c01eb1ee6554451d7", func := "gleaner/gleanerlaw12.IndexSweep", spec := "indexSweep", inPlace := ["internal/bytealg.Compare"], unfollowed := true, recurses := true, apart := false }
def IndexSweepSaid : Prop := indexSweepRow.holds Try.pinned (OpenSpec.ofChange indexSweepSpec)

/-- ITS FALSE NEIGHBOUR: 'it returns false'. Refute it at one input. -/
def indexSweepWrong : ChangeSpec := { name := "indexSweep", fn := fun _ => fun
  | [d] => { results := [.lit (.bool false)], args := [d] }
  | _ => none }
def IndexSweepWrongFalsely : Prop := indexSweepRow.holds Try.pinned (OpenSpec.ofChange indexSweepWrong)

/-- 'gleanerlaw12.IndexExact': WHATEVER THE INPUT: true; the input reads as it did. -/
def indexExactSpec : ChangeSpec := { name := "indexExact", fn := fun _ => fun
  | [d] => { results := [.lit (.bool true)], args := [d] }
  | _ => none }
def indexExactRow : OpenClaim := { program := "ytknbehjhaaidoaa", sum := "c48db674c5d5d49cf4464e8284ecad98d8414c2173f2fb3c01eb1ee6554451d7", func := "gleaner/gleanerlaw12.IndexExact", spec := "indexExact", inPlace := ["internal/bytealg.Compare"], unfollowed := true, recurses := true, apart := false }
def IndexExactSaid : Prop := indexExactRow.holds Try.pinned (OpenSpec.ofChange indexExactSpec)

/-- ITS FALSE NEIGHBOUR: 'it returns false'. Refute it at one input. -/
def indexExactWrong : ChangeSpec := { name := "indexExact", fn := fun _ => fun
  | [d] => { results := [.lit (.bool false)], args := [d] }
  | _ => none }
def IndexExactWrongFalsely : Prop := indexExactRow.holds Try.pinned (OpenSpec.ofChange indexExactWrong)

/- THE SECOND FORM. 'bulk': how many values and letters a reading holds, each counted each time it is reached (what is shared counts as often as it is met; a slice's spare places count too). A statement '..UptoSaid' is the law's where the arguments, and the package variables that the reading takes, are together of bulk at most 1048576: NARROWER than '..Said'. Prove '..Said' where nothing that the law and all that it calls make is longer than what came in: it says more and counts as full. Else prove '..UptoSaid'. A law counts once. -/
mutual
def uptoBulk {H : Type} : DataW H → Nat
  | .lit (.string bytes) => bytes.length + 1
  | .lit _ => 1
  | .nil => 1
  | .ptr d => uptoBulk d + 1
  | .slice elems spare => uptoBulkAll elems + uptoBulkAll spare + 1
  | .agg parts => uptoBulkAll parts + 1
  | .iface _ d => uptoBulk d + 1
  | .map entries => uptoBulkEntries entries + 1
  | .held _ => 1
def uptoBulkAll {H : Type} : List (DataW H) → Nat
  | [] => 0
  | d :: r => uptoBulk d + uptoBulkAll r
def uptoBulkEntries {H : Type} : List (Lit × DataW H) → Nat
  | [] => 0
  | x :: r => uptoBulkEntry x + uptoBulkEntries r
def uptoBulkEntry {H : Type} : Lit × DataW H → Nat
  | (.string bytes, d) => bytes.length + uptoBulk d + 1
  | (_, d) => uptoBulk d + 1
 end
def uptoSmall : (H : Type) → List (DataW H) → Bool := fun _ ds => decide (uptoBulkAll ds ≤ 1048576)
def OpenSpec.upto (s : _root_.Go.ChangeSpec) : _root_.Go.OpenSpec := { _root_.Go.OpenSpec.ofChange s with cond := some uptoSmall }

/-- 'gleanerlaw15.GreyOrder', WHERE WHAT IT READS IS OF BULK AT MOST 1048576: true; the input reads as it did. -/
def greyOrderUptoRow : OpenClaim := { program := "ytknbehjhaaidoaa", sum := "c48db674c5d5d49cf4464e8284ecad98d8414c2173f2fb3c01eb1ee6554451d7", func := "gleaner/gleanerlaw15.GreyOrder", spec := "greyOrder", apart := false, narrowed := true }
def GreyOrderUptoSaid : Prop := greyOrderUptoRow.holds Try.pinned (OpenSpec.upto greyOrderSpec)

/-- 'gleanerlaw15.GreyList', WHERE WHAT IT READS IS OF BULK AT MOST 1048576: true; the input reads as it did. -/
def greyListUptoRow : OpenClaim := { program := "ytknbehjhaaidoaa", sum := "c48db674c5d5d49cf4464e8284ecad98d8414c2173f2fb3c01eb1ee6554451d7", func := "gleaner/gleanerlaw15.GreyList", spec := "greyList", apart := false, narrowed := true }
def GreyListUptoSaid : Prop := greyListUptoRow.holds Try.pinned (OpenSpec.upto greyListSpec)

/-- 'gleanerlaw12.IndexSweep', WHERE WHAT IT READS IS OF BULK AT MOST 1048576: true; the input reads as it did. -/
def indexSweepUptoRow : OpenClaim := { program := "ytknbehjhaaidoaa", sum := "c48db674c5d5d49cf4464e8284ecad98d8414c2173f2fb3c01eb1ee6554451d7", func := "gleaner/gleanerlaw12.IndexSweep", spec := "indexSweep", inPlace := ["internal/bytealg.Compare"], unfollowed := true, recurses := true, apart := false, narrowed := true }
def IndexSweepUptoSaid : Prop := indexSweepUptoRow.holds Try.pinned (OpenSpec.upto indexSweepSpec)

/-- 'gleanerlaw12.IndexExact', WHERE WHAT IT READS IS OF BULK AT MOST 1048576: true; the input reads as it did. -/
def indexExactUptoRow : OpenClaim := { program := "ytknbehjhaaidoaa", sum := "c48db674c5d5d49cf4464e8284ecad98d8414c2173f2fb3c01eb1ee6554451d7", func := "gleaner/gleanerlaw12.IndexExact", spec := "indexExact", inPlace := ["internal/bytealg.Compare"], unfollowed := true, recurses := true, apart := false, narrowed := true }
def IndexExactUptoSaid : Prop := indexExactUptoRow.holds Try.pinned (OpenSpec.upto indexExactSpec)

end Rows
end Go.Proofs.Ytknbehjhaaidoaa
