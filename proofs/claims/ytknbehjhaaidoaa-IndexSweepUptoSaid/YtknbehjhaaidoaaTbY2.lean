/- A slot is built out of its parts; a whole slot, key, entry is stored. -/
import Derived.Test.YtknbehjhaaidoaaTbY
namespace Go.Proofs.Ytknbehjhaaidoaa.TB
open Go.RowKit Mem HD
set_option linter.unusedVariables false
set_option linter.unusedSimpArgs false

set_option maxRecDepth 100000 in
theorem built_parts (z a0 a1 a2 a3 a4 a5 a6 a7 a8 a9 a10 a11 a12 a13 a14 a15 a16 a17 a18 a19 a20 a21 a22 a23 a24 a25 a26 a27 a28 a29 a30 a31 e0 e1 e2 e3 : Value) : Try.prog.built 133 [(0, .int .u8 1), (1, .agg #[a0, a1, a2, a3, a4, a5, a6, a7, a8, a9, a10, a11, a12, a13, a14, a15, a16, a17, a18, a19, a20, a21, a22, a23, a24, a25, a26, a27, a28, a29, a30, a31]), (2, .agg #[e0, e1, e2, e3])] = some #[.int .u8 1, a0, a1, a2, a3, a4, a5, a6, a7, a8, a9, a10, a11, a12, a13, a14, a15, a16, a17, a18, a19, a20, a21, a22, a23, a24, a25, a26, a27, a28, a29, a30, a31, e0, e1, e2, e3] := by
  kernel_rfl
theorem slot_built {k e : List Value} (hk : k.length = 32) (he : e.length = 4) : Try.prog.built 133 [(0, .int .u8 1), (1, .agg k.toArray), (2, .agg e.toArray)] = some (.int .u8 1 :: (k ++ e)).toArray := by
  match k, hk, e, he with
  | [a0, a1, a2, a3, a4, a5, a6, a7, a8, a9, a10, a11, a12, a13, a14, a15, a16, a17, a18, a19, a20, a21, a22, a23, a24, a25, a26, a27, a28, a29, a30, a31], _, [e0, e1, e2, e3], _ => exact built_parts (.int .u8 0) a0 a1 a2 a3 a4 a5 a6 a7 a8 a9 a10 a11 a12 a13 a14 a15 a16 a17 a18 a19 a20 a21 a22 a23 a24 a25 a26 a27 a28 a29 a30 a31 e0 e1 e2 e3
set_option maxRecDepth 100000 in
theorem tomb_built : Try.prog.built 133 [(0, .int .u8 2)] = some (slotL .tomb).toArray := by
  kernel_rfl
section
variable {a : Act} {o : Oper} {w : World}
theorem y_full {x y z : Operand} {k : Key} {e : Ent} (ho : o.op = .build 133 #[(0, x), (1, y), (2, z)]) (hx : a.eval x = .int .u8 1) (hy : a.eval y = .agg k.L.toArray) (hz : a.eval z = .agg e.L.toArray) : (execOp a.eval o).run Try.prog w = .ok (.value (.agg (slotL (.full k e)).toArray)) w := by
  have h := run_build (P := Try.prog) w 133 #[(0, .int .u8 1), (1, .agg k.L.toArray), (2, .agg e.L.toArray)] _ (slot_built k.len e.len)
  unfold execOp
  simp only [ho, hx, hy, hz, List.map_toArray, List.map_cons, List.map_nil, Sem.run_bind, h, Result.andThen_ok, Sem.run_pure]
  rfl
theorem y_tomb {x : Operand} (ho : o.op = .build 133 #[(0, x)]) (hx : a.eval x = .int .u8 2) : (execOp a.eval o).run Try.prog w = .ok (.value (.agg (slotL .tomb).toArray)) w := by
  have h := run_build (P := Try.prog) w 133 #[(0, .int .u8 2)] _ tomb_built
  unfold execOp
  simp only [ho, hx, List.map_toArray, List.map_cons, List.map_nil, Sem.run_bind, h, Result.andThen_ok, Sem.run_pure]
end
theorem wpList_op {ops : Array Oper} {rest : List Oper} {o : Oper} {a : Act} {w : World} {v : Value} {Q : Exit → Act → World → Prop} (hgd : o.guard = none) (hy : (execOp a.eval o).run Try.prog w = .ok (.value v) w)
    (h : wpList Try.prog ops Q rest (a.put o.dst v) w) : wpList Try.prog ops Q (o :: rest) a w :=
  wpList_plain hgd fun K hK => op_yield hy (hK _ _ h)
theorem key_ones (k : Key) : ∀ v ∈ k.L, v.oneCell' = true := fun v hv => by
  obtain ⟨b, _, rfl⟩ := List.mem_map.1 hv
  rfl
theorem ent_ones (e : Ent) : ∀ v ∈ e.L, v.oneCell' = true := fun v hv => by
  unfold Ent.L at hv
  simp at hv
  rcases hv with rfl | rfl | rfl | rfl <;> rfl
theorem slot_ones (s : Sl) : ∀ v ∈ slotL s, v.oneCell' = true := fun v hv => by
  rcases List.mem_cons.1 hv with rfl | hv
  · rfl
  · rcases List.mem_append.1 hv with hv | hv
    · exact key_ones _ v hv
    · exact ent_ones _ v hv
end Go.Proofs.Ytknbehjhaaidoaa.TB

