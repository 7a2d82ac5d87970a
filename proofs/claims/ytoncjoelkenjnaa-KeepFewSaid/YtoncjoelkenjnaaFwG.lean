/- KeepFew: a rule compared with the rule of noughts. -/
import Derived.Test.YtoncjoelkenjnaaFwF
import Derived.Laws.StructEq
namespace Go.Proofs.Ytoncjoelkenjnaa.PL
open Go.RowKit Mem Go.Proofs.Ytoncjoelkenjnaa.Days Go.Proofs.Ytoncjoelkenjnaa.SS
set_option linter.unusedVariables false
set_option linter.unusedSimpArgs false

set_option maxRecDepth 100000 in
theorem rule_fields : (Try.prog.fieldsOf 50).toList = [{ name := "Last", type := 36, offset := 0, embedded := false, tag := "", pkgPath := "", byteOffset := 0 }, { name := "Hours", type := 36, offset := 1, embedded := false, tag := "", pkgPath := "", byteOffset := 2 }, { name := "Days", type := 36, offset := 2, embedded := false, tag := "", pkgPath := "", byteOffset := 4 }, { name := "Weeks", type := 36, offset := 3, embedded := false, tag := "", pkgPath := "", byteOffset := 6 }, { name := "Months", type := 36, offset := 4, embedded := false, tag := "", pkgPath := "", byteOffset := 8 }, { name := "Years", type := 36, offset := 5, embedded := false, tag := "", pkgPath := "", byteOffset := 10 }, { name := "Within", type := 2, offset := 6, embedded := false, tag := "", pkgPath := "", byteOffset := 16 }] := by
  unfold Program.fieldsOf
  rw [Try.underlying50]
set_option maxRecDepth 100000 in
theorem rule_isStruct : Try.prog.underlying 50 = some (.struct (Try.prog.fieldsOf 50)) := by
  unfold Program.fieldsOf
  rw [Try.underlying50]
theorem rule_stood : Try.prog.stoodInHeld 50 = false := by kernel_rfl
theorem rule_guard : Try.prog.eqGuardType Try.prog.depth 50 = false := by kernel_rfl
/-- Not all nought. -/
def anyB (l h d k m y v : Int) : Bool := !(l == 0 && h == 0 && d == 0 && k == 0 && m == 0 && y == 0 && v == 0)
theorem rule_zero (l h d k m y v : Int) (w : World) : (Op.equalIn 10000 50 (.agg #[.int .i16 l, .int .i16 h, .int .i16 d, .int .i16 k, .int .i16 m, .int .i16 y, .int .i64 v]) (.agg #[.int .i16 0, .int .i16 0, .int .i16 0, .int .i16 0, .int .i16 0, .int .i16 0, .int .i64 0])).run Try.prog w = .ok (l == 0 && h == 0 && d == 0 && k == 0 && m == 0 && y == 0 && v == 0) w := by
  have p0 : (part 36 #[.int .i16 l, .int .i16 h, .int .i16 d, .int .i16 k, .int .i16 m, .int .i16 y, .int .i64 v] 0).run Try.prog w = .ok (.int .i16 l) w := by
    unfold part; simp [isAgg, Try.underlying36]
  have p1 : (part 36 #[.int .i16 l, .int .i16 h, .int .i16 d, .int .i16 k, .int .i16 m, .int .i16 y, .int .i64 v] 1).run Try.prog w = .ok (.int .i16 h) w := by
    unfold part; simp [isAgg, Try.underlying36]
  have p2 : (part 36 #[.int .i16 l, .int .i16 h, .int .i16 d, .int .i16 k, .int .i16 m, .int .i16 y, .int .i64 v] 2).run Try.prog w = .ok (.int .i16 d) w := by
    unfold part; simp [isAgg, Try.underlying36]
  have p3 : (part 36 #[.int .i16 l, .int .i16 h, .int .i16 d, .int .i16 k, .int .i16 m, .int .i16 y, .int .i64 v] 3).run Try.prog w = .ok (.int .i16 k) w := by
    unfold part; simp [isAgg, Try.underlying36]
  have p4 : (part 36 #[.int .i16 l, .int .i16 h, .int .i16 d, .int .i16 k, .int .i16 m, .int .i16 y, .int .i64 v] 4).run Try.prog w = .ok (.int .i16 m) w := by
    unfold part; simp [isAgg, Try.underlying36]
  have p5 : (part 36 #[.int .i16 l, .int .i16 h, .int .i16 d, .int .i16 k, .int .i16 m, .int .i16 y, .int .i64 v] 5).run Try.prog w = .ok (.int .i16 y) w := by
    unfold part; simp [isAgg, Try.underlying36]
  have p6 : (part 2 #[.int .i16 l, .int .i16 h, .int .i16 d, .int .i16 k, .int .i16 m, .int .i16 y, .int .i64 v] 6).run Try.prog w = .ok (.int .i64 v) w := by
    unfold part; simp [isAgg, Try.underlying2]
  have z0 : (part 36 #[.int .i16 0, .int .i16 0, .int .i16 0, .int .i16 0, .int .i16 0, .int .i16 0, .int .i64 0] 0).run Try.prog w = .ok (.int .i16 0) w := by
    unfold part; simp [isAgg, Try.underlying36]
  have z1 : (part 36 #[.int .i16 0, .int .i16 0, .int .i16 0, .int .i16 0, .int .i16 0, .int .i16 0, .int .i64 0] 1).run Try.prog w = .ok (.int .i16 0) w := by
    unfold part; simp [isAgg, Try.underlying36]
  have z2 : (part 36 #[.int .i16 0, .int .i16 0, .int .i16 0, .int .i16 0, .int .i16 0, .int .i16 0, .int .i64 0] 2).run Try.prog w = .ok (.int .i16 0) w := by
    unfold part; simp [isAgg, Try.underlying36]
  have z3 : (part 36 #[.int .i16 0, .int .i16 0, .int .i16 0, .int .i16 0, .int .i16 0, .int .i16 0, .int .i64 0] 3).run Try.prog w = .ok (.int .i16 0) w := by
    unfold part; simp [isAgg, Try.underlying36]
  have z4 : (part 36 #[.int .i16 0, .int .i16 0, .int .i16 0, .int .i16 0, .int .i16 0, .int .i16 0, .int .i64 0] 4).run Try.prog w = .ok (.int .i16 0) w := by
    unfold part; simp [isAgg, Try.underlying36]
  have z5 : (part 36 #[.int .i16 0, .int .i16 0, .int .i16 0, .int .i16 0, .int .i16 0, .int .i16 0, .int .i64 0] 5).run Try.prog w = .ok (.int .i16 0) w := by
    unfold part; simp [isAgg, Try.underlying36]
  have z6 : (part 2 #[.int .i16 0, .int .i16 0, .int .i16 0, .int .i16 0, .int .i16 0, .int .i16 0, .int .i64 0] 6).run Try.prog w = .ok (.int .i64 0) w := by
    unfold part; simp [isAgg, Try.underlying2]
  have e0 := fun D => run_equalIn_int (P := Try.prog) w D 36 .i16 .i16 l 0 Try.underlying36
  have e1 := fun D => run_equalIn_int (P := Try.prog) w D 36 .i16 .i16 h 0 Try.underlying36
  have e2 := fun D => run_equalIn_int (P := Try.prog) w D 36 .i16 .i16 d 0 Try.underlying36
  have e3 := fun D => run_equalIn_int (P := Try.prog) w D 36 .i16 .i16 k 0 Try.underlying36
  have e4 := fun D => run_equalIn_int (P := Try.prog) w D 36 .i16 .i16 m 0 Try.underlying36
  have e5 := fun D => run_equalIn_int (P := Try.prog) w D 36 .i16 .i16 y 0 Try.underlying36
  have e6 := fun D => run_equalIn_int (P := Try.prog) w D 2 .i64 .i64 v 0 Try.underlying2
  rw [run_equalIn_agg w _ _ _ _ rule_isStruct rule_stood, rule_fields]
  simp only [Op.eqFields, Sem.run_bind, Sem.run_ite, Result.andThen_ok, Sem.run_pure, p0, z0, e0, p1, z1, e1, p2, z2, e2, p3, z3, e3, p4, z4, e4, p5, z5, e5, p6, z6, e6]
  cases (l == 0) <;> cases (h == 0) <;> cases (d == 0) <;> cases (k == 0) <;> cases (m == 0) <;> cases (y == 0) <;> cases (v == 0) <;> rfl
theorem rule_neq0 (l h d k m y v : Int) (w : World) : (binOp .neq 50 (.agg #[.int .i16 l, .int .i16 h, .int .i16 d, .int .i16 k, .int .i16 m, .int .i16 y, .int .i64 v]) (.agg #[.int .i16 0, .int .i16 0, .int .i16 0, .int .i16 0, .int .i16 0, .int .i16 0, .int .i64 0])).run Try.prog w = .ok (.bool (anyB l h d k m y v)) w := by
  rw [run_neq_struct, rule_zero]; rfl
theorem anyB_true {l h d k m y v : Int} (H : anyB l h d k m y v = true) (h0 : 0 ≤ l) (h1 : 0 ≤ h) (h2 : 0 ≤ d) (h3 : 0 ≤ k) (h4 : 0 ≤ m) (h5 : 0 ≤ y) (h6 : 0 ≤ v) : 0 < l ∨ 0 < h ∨ 0 < d ∨ 0 < k ∨ 0 < m ∨ 0 < y ∨ 0 < v := by
  unfold anyB at H
  simp at H
  omega
end Go.Proofs.Ytoncjoelkenjnaa.PL
