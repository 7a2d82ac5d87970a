/- The law WireFaults: the walk. -/
import Derived.Test.YtdmfipkmalhngaaDoorFtB
import Derived.Test.YtdmfipkmalhngaaDoorFtF
import Derived.Laws.StructEq
namespace Go.Proofs.YtdmfipkmalhngaaDoor.FT
open Go.RowKit Mem Go.Extern.Stop Go.Stop Go.Extern
set_option linter.unusedVariables false
set_option linter.unusedSimpArgs false

theorem neqErr (w : World) (a : Int) : (binOp .neq 28 (.iface 22 (.int .i64 a)) (.iface 22 (.int .i64 a))).run Tryd.prog w = .ok (.bool false) w := by
  have hq := eqErr w a a
  rw [decide_eq_true rfl] at hq
  simp only [binOp] at hq ⊢
  simp only [Op.equal, Op.maxDepth] at hq ⊢
  revert hq
  simp
  generalize (Op.equalIn 10000 28 (.iface 22 (.int .i64 a)) (.iface 22 (.int .i64 a))).run Tryd.prog w = r
  cases r <;> simp [Result.andThen]
/-- The text that the law builds is the fault's. -/
theorem text_law (A C : List UInt8) : (({data := #[97, 116, 32]} ++ sv A) ++ {data := #[58, 32, 101, 114, 114, 111, 114, 32]}) ++ sv C = sv ([97, 116, 32] ++ A ++ [58, 32] ++ ([101, 114, 114, 111, 114, 32] ++ C)) := by
  rw [show ([97, 116, 32] ++ A ++ [58, 32] ++ ([101, 114, 114, 111, 114, 32] ++ C)) = (([97, 116, 32] ++ A) ++ [58, 32, 101, 114, 114, 111, 114, 32]) ++ C by simp, ← sv_append, ← sv_append, ← sv_append]; rfl
set_option maxRecDepth 100000 in
theorem fault_fields : (Tryd.prog.fieldsOf 24).toList = [{ name := "At", type := 3, offset := 0, embedded := false, tag := "", pkgPath := "", byteOffset := 0 },
      { name := "Code", type := 22, offset := 1, embedded := false, tag := "", pkgPath := "", byteOffset := 8 }] := by
  unfold Program.fieldsOf
  rw [Tryd.underlying24]
set_option maxRecDepth 100000 in
theorem fault_isStruct : Tryd.prog.underlying 24 = some (.struct (Tryd.prog.fieldsOf 24)) := by
  unfold Program.fieldsOf
  rw [Tryd.underlying24]
theorem fault_stood : Tryd.prog.stoodInHeld 24 = false := by kernel_rfl
theorem fault_guard : Tryd.prog.eqGuardType Tryd.prog.depth 24 = false := by kernel_rfl
theorem neqFault (a c : Int) (w : World) : (binOp .neq 24 (.agg #[.int .i64 a, .int .i64 c]) (.agg #[.int .i64 a, .int .i64 c])).run Tryd.prog w = .ok (.bool false) w := by
  have h0 : (part 3 #[.int .i64 a, .int .i64 c] 0).run Tryd.prog w = .ok (.int .i64 a) w := by
    unfold part; simp [isAgg, Tryd.underlying3]
  have h1 : (part 22 #[.int .i64 a, .int .i64 c] 1).run Tryd.prog w = .ok (.int .i64 c) w := by
    unfold part; simp [isAgg, Tryd.underlying22]
  rw [run_neq_struct, run_equalIn_agg w _ _ _ _ fault_isStruct fault_stood, fault_fields]
  simp [Op.eqFields, h0, h1, run_equalIn_int (P := Tryd.prog) w _ 3 .i64 .i64 a a Tryd.underlying3, run_equalIn_int (P := Tryd.prog) w _ 22 .i64 .i64 c c Tryd.underlying22, Result.andThen]
end Go.Proofs.YtdmfipkmalhngaaDoor.FT
