/- errors.Is of what wraps a Fault twice. -/
import Derived.Test.YtdmfipkmalhngaaDoorFtC
namespace Go.Proofs.YtdmfipkmalhngaaDoor.FT
open Go.RowKit Mem Go.Extern.Stop Go.Stop Go.Extern
set_option linter.unusedVariables false
set_option linter.unusedSimpArgs false

/-- A Fault wrapped twice. -/
abbrev wrapped (a c : Int) : Value := .agg #[.iface 31 (.agg #[.iface 24 (.agg #[.int .i64 a, .int .i64 c])])]
set_option maxHeartbeats 8000000 in
/-- errors.Is of a Fault wrapped twice. -/
theorem is_wrapped (a c x : Int) (w : World) : Calls Tryd.prog 8 #[.iface 31 (.agg #[.iface 31 (.agg #[.iface 24 (.agg #[.int .i64 a, .int .i64 c])])]), .iface 22 (.int .i64 x)] w fun e w' => e = .returned (.bool (decide (c = x))) ∧ Mod no w w' := by
  have h8 := @run_callFunc_extern Tryd.prog 15 _ ReflectliteType.typeOf Tryd.func15 (by kernel_rfl) (by kernel_rfl) (by kernel_rfl) (by kernel_rfl)
  have h32 := @run_callFunc_extern Tryd.prog 56 _ compE Tryd.func56 (by kernel_rfl) (by kernel_rfl) (by kernel_rfl) (by kernel_rfl)
  have tT := isTypeOf
  have cT := isComparable
  have mR := isMethodComparable
  have nE := noIsE
  have uE := noUnwrapE
  have vE := noUnwrapsE
  have nF := noIsF
  have uF := hasUnwrapF
  have mU := methodUnwrapF
  have e1 := eqFE
  have e3 := eqWE
  have nW := noIsW
  have uW := hasUnwrapW
  have mW := methodUnwrapW
  by_cases hcx : c = x
  · have e2 : ∀ W, (binOp .eql 28 (.iface 22 (.int .i64 c)) (.iface 22 (.int .i64 x))).run Tryd.prog W = .ok (.bool true) W := fun W => by rw [eqErr, decide_eq_true hcx]
    rw [decide_eq_true hcx]
    clear hcx
    go_enter Tryd.func8, Tryd.ntmps8
    go_wp2
    refine wp_loop_rounds 4 ?_
    rw [rounds_succ]
    go_wp2
    rw [rounds_succ]
    go_wp2
    rw [rounds_succ]
    go_wp2
    rw [rounds_succ]
    go_wp2
    go_ret
    exact ⟨rfl, (((Mod.refl no w).alloc _).alloc _).alloc _⟩
  · have e2 : ∀ W, (binOp .eql 28 (.iface 22 (.int .i64 c)) (.iface 22 (.int .i64 x))).run Tryd.prog W = .ok (.bool false) W := fun W => by rw [eqErr, decide_eq_false hcx]
    rw [decide_eq_false hcx]
    clear hcx
    go_enter Tryd.func8, Tryd.ntmps8
    go_wp2
    refine wp_loop_rounds 4 ?_
    rw [rounds_succ]
    go_wp2
    rw [rounds_succ]
    go_wp2
    rw [rounds_succ]
    go_wp2
    rw [rounds_succ]
    go_wp2
    go_ret
    exact ⟨rfl, (((Mod.refl no w).alloc _).alloc _).alloc _⟩
end Go.Proofs.YtdmfipkmalhngaaDoor.FT
