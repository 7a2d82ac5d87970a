/- The three laws on days, as the frames take them: the arguments opened. -/
import Derived.Test.YtoncjoelkenjnaaDaysL
import Derived.ProofKit
import Derived.OpenShut
import Derived.Lib.SmallJoins
namespace Go.Proofs.Ytoncjoelkenjnaa.Days
open Go.ChangeShapes Go.WideShapes Go.ChangeAt Go.RowKit Go.Joins
set_option linter.unusedVariables false

theorem bd64 {n : Int} (h : (Lit.int .i64 n).wf = true) : -9223372036854775808 ≤ n ∧ n ≤ 9223372036854775807 := by
  simpa [Lit.wf, IntKind.min, IntKind.max, IntKind.signed, IntKind.bits] using h
theorem bd16 {n : Int} (h : (Lit.int .i16 n).wf = true) : -32768 ≤ n ∧ n ≤ 32767 := by
  simpa [Lit.wf, IntKind.min, IntKind.max, IntKind.signed, IntKind.bits] using h
theorem bd8 {n : Int} (h : (Lit.int .i8 n).wf = true) : -128 ≤ n ∧ n ≤ 127 := by
  simpa [Lit.wf, IntKind.min, IntKind.max, IntKind.signed, IntKind.bits] using h

theorem days_core (H : Type) (enc : TypeId × Value → H) (W : World) (base : Nat) (v0 : Value) (d0 : DataW H) (p0 : List MemPlace)
    (o0 : Value.okWide Try.prog W .any base 2 v0) (h0 : DataW.Trod enc Try.prog W 0 (fun _ => true) true 2 v0 d0 p0) :
    Calls Try.prog 5 #[v0] W fun e w' => e = .returned (.bool true) ∧ Below W.heap.size W w' := by
  obtain ⟨a0, rfl, rfl, rfl, w0⟩ := open_int Try.underlying2 o0 h0
  exact days_law a0 W (bd64 w0).1 (bd64 w0).2

theorem calendar_core (H : Type) (enc : TypeId × Value → H) (W : World) (base : Nat) (v0 : Value) (d0 : DataW H) (p0 : List MemPlace)
    (o0 : Value.okWide Try.prog W .any base 2 v0) (h0 : DataW.Trod enc Try.prog W 0 (fun _ => true) true 2 v0 d0 p0) :
    Calls Try.prog 6 #[v0] W fun e w' => e = .returned (.bool true) ∧ Below W.heap.size W w' := by
  obtain ⟨a0, rfl, rfl, rfl, w0⟩ := open_int Try.underlying2 o0 h0
  exact calendar_law a0 W (bd64 w0).1 (bd64 w0).2

theorem day_cells : Try.prog.cellsOf 39 = 4 := by kernel_rfl

theorem times_core (H : Type) (enc : TypeId × Value → H) (W : World) (base : Nat) (v0 : Value) (d0 : DataW H) (p0 : List MemPlace)
    (o0 : Value.okWide Try.prog W .any base 39 v0) (h0 : DataW.Trod enc Try.prog W 0 (fun _ => true) true 39 v0 d0 p0) :
    Calls Try.prog 4 #[v0] W fun e w' => e = .returned (.bool true) ∧ Below W.heap.size W w' := by
  obtain ⟨x0, x1, x2, x3, y0, y1, y2, y3, n, rfl, _, _, h0, h1, h2, h3⟩ := open_agg4 Try.underlying39 (by kernel_rfl) day_cells o0 h0
  obtain ⟨a, e0, _, wa⟩ := DataW.trod_int Try.underlying36 h0
  obtain ⟨b, e1, _, wb⟩ := DataW.trod_int Try.underlying37 h1
  obtain ⟨c, e2, _, wc⟩ := DataW.trod_int Try.underlying37 h2
  obtain ⟨d, e3, _, wd⟩ := DataW.trod_int Try.underlying37 h3
  simp at e0 e1 e2 e3
  subst e0 e1 e2 e3
  exact times_law a b c d W (bd16 wa).1 (bd16 wa).2 (bd8 wb).1 (bd8 wb).2 (bd8 wc).1 (bd8 wc).2
end Go.Proofs.Ytoncjoelkenjnaa.Days
