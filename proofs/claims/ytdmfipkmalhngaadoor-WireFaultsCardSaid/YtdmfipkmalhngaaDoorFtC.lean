/- errors.Is by its contracts, at a number of an error (api.Errno) as the target: of a Fault, of such a number, of what wraps a Fault twice. -/
import Derived.Test.YtdmfipkmalhngaaDoorFtA
import Derived.LaidEql
import Derived.Stop.Asserts
import Derived.RowKitTokens
import Derived.Lib.IfaceEq
namespace Go.Proofs.YtdmfipkmalhngaaDoor.FT
open Go.RowKit Mem Go.Extern.Stop Go.Stop Go.Extern
set_option linter.unusedVariables false
set_option linter.unusedSimpArgs false

theorem isTypeOf (v : Value) (w : World) : (ReflectliteType.typeOf #[.iface 22 v]).run Tryd.prog w = .ok (.iface 53 (.agg #[.pointer (some ⟨4, 22, none⟩)])) w := by kernel_rfl
def compE : Array Value → Sem Value := ReflectliteType.method fun t => do Rtype.noPackHeld "Comparable" t; pure (.bool (← typeInfo t).comparable)
theorem isComparable (w : World) : (compE #[.agg #[.pointer (some ⟨4, 22, none⟩)]]).run Tryd.prog w = .ok (.bool true) w := by kernel_rfl
theorem isMethodComparable (v : Value) (w : World) : (Go.method 213 53 (.agg #[v]) "Comparable").run Tryd.prog w = .ok (56, .agg #[v]) w := by kernel_rfl
theorem noIsE (v : Value) (xT : TypeId) (w : World) : (Instr.typeAssert (.iface 22 v) xT 64 true).run Tryd.prog w = .ok (.tuple #[.nilIface, .bool false]) w := run_typeAssert_lacksB Tryd.underlying64 (by kernel_rfl) (by kernel_rfl) v xT w
theorem noUnwrapE (v : Value) (xT : TypeId) (w : World) : (Instr.typeAssert (.iface 22 v) xT 60 true).run Tryd.prog w = .ok (.tuple #[.nilIface, .bool false]) w := run_typeAssert_lacksB Tryd.underlying60 (by kernel_rfl) (by kernel_rfl) v xT w
theorem noUnwrapsE (v : Value) (xT : TypeId) (w : World) : (Instr.typeAssert (.iface 22 v) xT 61 true).run Tryd.prog w = .ok (.tuple #[.nilIface, .bool false]) w := run_typeAssert_lacksB Tryd.underlying61 (by kernel_rfl) (by kernel_rfl) v xT w
theorem noIsF (v : Value) (xT : TypeId) (w : World) : (Instr.typeAssert (.iface 24 v) xT 64 true).run Tryd.prog w = .ok (.tuple #[.nilIface, .bool false]) w := run_typeAssert_lacksB Tryd.underlying64 (by kernel_rfl) (by kernel_rfl) v xT w
theorem noIsW (v : Value) (xT : TypeId) (w : World) : (Instr.typeAssert (.iface 31 v) xT 64 true).run Tryd.prog w = .ok (.tuple #[.nilIface, .bool false]) w := run_typeAssert_lacksB Tryd.underlying64 (by kernel_rfl) (by kernel_rfl) v xT w
theorem hasUnwrapF (v : Value) (xT : TypeId) (w : World) : (Instr.typeAssert (.iface 24 v) xT 60 true).run Tryd.prog w = .ok (.tuple #[.iface 24 v, .bool true]) w := run_typeAssert_hasB Tryd.underlying60 (by kernel_rfl) v xT w
theorem hasUnwrapW (v : Value) (xT : TypeId) (w : World) : (Instr.typeAssert (.iface 31 v) xT 60 true).run Tryd.prog w = .ok (.tuple #[.iface 31 v, .bool true]) w := run_typeAssert_hasB Tryd.underlying60 (by kernel_rfl) v xT w
theorem methodUnwrapF (v : Value) (w : World) : (Go.method 213 24 v "Unwrap").run Tryd.prog w = .ok (6, v) w := by kernel_rfl
theorem methodUnwrapW (v : Value) (w : World) : (Go.method 213 31 v "Unwrap").run Tryd.prog w = .ok (50, v) w := by kernel_rfl
theorem isCompE : (Tryd.prog.info? 22).map (·.comparable) = some true := by kernel_rfl
theorem eqErr (w : World) (a b : Int) : (binOp .eql 28 (.iface 22 (.int .i64 a)) (.iface 22 (.int .i64 b))).run Tryd.prog w = .ok (.bool (decide (a = b))) w := by
  have h := Lib.run_eql_iface_int (P := Tryd.prog) (k := .i64) (q := .i64) w a b Tryd.underlying28 isCompE Tryd.underlying22
  rw [h]; congr 2
  try exact Bool.eq_iff_iff.2 (by simp)
theorem eqFE (w : World) (u v : Value) : (binOp .eql 28 (.iface 24 u) (.iface 22 v)).run Tryd.prog w = .ok (.bool false) w := run_eql_iface_types (P := Tryd.prog) _ _ _ _ Tryd.underlying28 (by decide) w
theorem eqWE (w : World) (u v : Value) : (binOp .eql 28 (.iface 31 u) (.iface 22 v)).run Tryd.prog w = .ok (.bool false) w := run_eql_iface_types (P := Tryd.prog) _ _ _ _ Tryd.underlying28 (by decide) w

set_option maxHeartbeats 2000000 in
/-- errors.Is of a Fault. -/
theorem is_fault (a c x : Int) (w : World) : Calls Tryd.prog 8 #[.iface 24 (.agg #[.int .i64 a, .int .i64 c]), .iface 22 (.int .i64 x)] w fun e w' => e = .returned (.bool (decide (c = x))) ∧ Mod no w w' := by
  have h8 := @run_callFunc_extern Tryd.prog 15 _ ReflectliteType.typeOf Tryd.func15 (by kernel_rfl) (by kernel_rfl) (by kernel_rfl) (by kernel_rfl)
  have h32 := @run_callFunc_extern Tryd.prog 56 _ compE Tryd.func56 (by kernel_rfl) (by kernel_rfl) (by kernel_rfl) (by kernel_rfl)
  have tT := isTypeOf
  have cT := isComparable
  have mR := isMethodComparable
  have nE := noIsE
  have uE := noUnwrapE
  have vE := noUnwrapsE
  have nF := noIsF
  have uF := hasUnwrapF
  have mU := methodUnwrapF
  have e1 := eqFE
  by_cases hcx : c = x
  · have e2 : ∀ W, (binOp .eql 28 (.iface 22 (.int .i64 c)) (.iface 22 (.int .i64 x))).run Tryd.prog W = .ok (.bool true) W := fun W => by rw [eqErr, decide_eq_true hcx]
    rw [decide_eq_true hcx]
    clear hcx
    go_enter Tryd.func8, Tryd.ntmps8
    go_wp2
    refine wp_loop_rounds 2 ?_
    rw [rounds_succ]
    go_wp2
    rw [rounds_succ]
    go_wp2
    go_ret
    exact ⟨rfl, (Mod.refl no w).alloc _⟩
  · have e2 : ∀ W, (binOp .eql 28 (.iface 22 (.int .i64 c)) (.iface 22 (.int .i64 x))).run Tryd.prog W = .ok (.bool false) W := fun W => by rw [eqErr, decide_eq_false hcx]
    rw [decide_eq_false hcx]
    clear hcx
    go_enter Tryd.func8, Tryd.ntmps8
    go_wp2
    refine wp_loop_rounds 2 ?_
    rw [rounds_succ]
    go_wp2
    rw [rounds_succ]
    go_wp2
    go_ret
    exact ⟨rfl, (Mod.refl no w).alloc _⟩
end Go.Proofs.YtdmfipkmalhngaaDoor.FT
