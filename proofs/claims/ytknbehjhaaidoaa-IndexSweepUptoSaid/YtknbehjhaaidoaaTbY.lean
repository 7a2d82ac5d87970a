/- The operations of a table's functions, one lemma a kind. -/
import Derived.Test.YtknbehjhaaidoaaTbA
import Derived.Laws.Bits64b
import Derived.Laws.StructEq
namespace Go.Proofs.Ytknbehjhaaidoaa.TB
open Go.RowKit Mem HD
set_option linter.unusedVariables false
set_option linter.unusedSimpArgs false

section
variable {a : Act} {o : Oper} {w : World}
/-- A whole key, entry or slot is loaded. -/
theorem y_mid {x : Operand} {ty : TypeId} {b off : Nat} {cs : List Value} {d : TypeDesc} (ho : o.op = .load ty x) (hx : a.eval x = .pointer (some ⟨b, off, none⟩)) (hc : w.rangeAt b off cs)
    (hu : Try.prog.underlying ty = some d) (hd : d.isRow = true) (hi : (Try.prog.info? ty).map (·.size) = some cs.length) : (execOp a.eval o).run Try.prog w = .ok (.value (.agg cs.toArray)) w := by
  generalize a.eval = ev at hx
  unfold execOp
  simp only [ho, hx, Sem.run_bind, run_loadAt_mid w b off ty cs d hc hu hd hi, Result.andThen_ok, Sem.run_pure]
theorem y_key {x : Operand} {b off : Nat} {k : Key} (ho : o.op = .load 39 x) (hx : a.eval x = .pointer (some ⟨b, off, none⟩)) (hc : w.rangeAt b off k.L) : (execOp a.eval o).run Try.prog w = .ok (.value (.agg k.L.toArray)) w :=
  y_mid ho hx hc Try.underlying39 rfl (key_sizeG k.len)
theorem y_ent {x : Operand} {b off : Nat} {e : Ent} (ho : o.op = .load 56 x) (hx : a.eval x = .pointer (some ⟨b, off, none⟩)) (hc : w.rangeAt b off e.L) : (execOp a.eval o).run Try.prog w = .ok (.value (.agg e.L.toArray)) w :=
  y_mid ho hx hc Try.underlying56 rfl (ent_sizeG e)
theorem y_slot {x : Operand} {b off : Nat} {s : Sl} (ho : o.op = .load 133 x) (hx : a.eval x = .pointer (some ⟨b, off, none⟩)) (hc : w.rangeAt b off (slotL s)) : (execOp a.eval o).run Try.prog w = .ok (.value (.agg (slotL s).toArray)) w :=
  y_mid ho hx hc Try.underlying133 rfl (slot_sizeG s)
theorem y_one {x : Operand} {t : TypeId} {p : Addr} {v : Value} (ho : o.op = .load t x) (ht : t = 3 ∨ t = 134 ∨ t = 5 ∨ t = 124 ∨ t = 105) (hx : a.eval x = .pointer (some p)) (hc : w.cell? p = some v) (hv : v.oneCell' = true) : (execOp a.eval o).run Try.prog w = .ok (.value v) w := by
  generalize a.eval = ev at hx
  unfold execOp
  rcases ht with rfl | rfl | rfl | rfl | rfl
  all_goals
    simp only [ho, hx]
    go_simp
theorem y_eqK {x y : Operand} {k k' : Key} (ho : o.op = .binOp .eql 39 x y 39) (hx : a.eval x = .agg k.L.toArray) (hy : a.eval y = .agg k'.L.toArray) :
    (execOp a.eval o).run Try.prog w = .ok (.value (.bool (decide (k = k')))) w := by
  generalize a.eval = ev at hx hy
  unfold execOp
  simp only [ho, hx, hy, Sem.run_bind, run_eqGuard_agg (P := Try.prog) w .eql 39 x y k.L.toArray k'.L.toArray key_guard, Result.andThen_ok, run_eql_struct, key_equal, Sem.run_pure, key_eq_iff]
/-- A slot's fields. -/
theorem y_st {x : Operand} {b off : Nat} (ho : o.op = .fieldAddr 133 x 0) (hx : a.eval x = .pointer (some ⟨b, off, none⟩)) : (execOp a.eval o).run Try.prog w = .ok (.value (.pointer (some ⟨b, off, none⟩))) w := by
  generalize a.eval = ev at hx
  unfold execOp
  simp only [ho, hx]
  go_simp
theorem y_sk {x : Operand} {b off : Nat} (ho : o.op = .fieldAddr 133 x 1) (hx : a.eval x = .pointer (some ⟨b, off, none⟩)) : (execOp a.eval o).run Try.prog w = .ok (.value (.pointer (some ⟨b, off + 1, none⟩))) w := by
  generalize a.eval = ev at hx
  unfold execOp
  simp only [ho, hx]
  go_simp
theorem y_sv {x : Operand} {b off : Nat} (ho : o.op = .fieldAddr 133 x 2) (hx : a.eval x = .pointer (some ⟨b, off, none⟩)) : (execOp a.eval o).run Try.prog w = .ok (.value (.pointer (some ⟨b, off + 33, none⟩))) w := by
  generalize a.eval = ev at hx
  unfold execOp
  simp only [ho, hx]
  go_simp
/-- An array's, a table's fields. -/
theorem y_fa {x : Operand} {g k : Nat} (hk : k < 3) (ho : o.op = .fieldAddr 136 x k) (hx : a.eval x = .pointer (some ⟨g, 0, none⟩)) : (execOp a.eval o).run Try.prog w = .ok (.value (.pointer (some ⟨g, k, none⟩))) w := by
  generalize a.eval = ev at hx
  obtain rfl | rfl | rfl : k = 0 ∨ k = 1 ∨ k = 2 := by omega
  all_goals
    unfold execOp
    simp only [ho, hx]
    go_simp
theorem y_ft {x : Operand} {g k : Nat} (hk : k < 4) (ho : o.op = .fieldAddr 127 x k) (hx : a.eval x = .pointer (some ⟨g, 0, none⟩)) : (execOp a.eval o).run Try.prog w = .ok (.value (.pointer (some ⟨g, k, none⟩))) w := by
  generalize a.eval = ev at hx
  obtain rfl | rfl | rfl | rfl : k = 0 ∨ k = 1 ∨ k = 2 ∨ k = 3 := by omega
  all_goals
    unfold execOp
    simp only [ho, hx]
    go_simp
theorem y_ix {x y : Operand} {gs R p c : Nat} (ho : o.op = .indexAddr 134 x y) (hx : a.eval x = .slice (some ⟨gs, 0, none⟩) R c) (hy : a.eval y = .int .i64 (p : Int)) (hp : p < R) : (execOp a.eval o).run Try.prog w = .ok (.value (.pointer (some ⟨gs, p * 37, none⟩))) w := by
  have hp0 : (0 : Int) ≤ (p : Int) := by omega
  have hpi : (p : Int) < (R : Int) := by omega
  generalize a.eval = ev at hx hy
  unfold execOp
  simp only [ho, hx, hy]
  go_simp
end

/-! ### A slot is built -/
set_option maxRecDepth 100000 in
theorem slot_places : ∀ fields, Try.prog.underlying 133 = some (.struct fields) → fields.toList.mapM (fun f => (Try.prog.info? f.type).map fun i => (f.offset, i.size)) = some [(0, 1), (1, 32), (33, 4)] := by
  intro fields h
  have h1 := Try.underlying133.symm.trans h
  injection h1 with h1
  injection h1 with h1
  subst h1
  rfl
end Go.Proofs.Ytknbehjhaaidoaa.TB
