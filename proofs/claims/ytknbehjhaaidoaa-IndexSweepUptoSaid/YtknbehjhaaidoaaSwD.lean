/- Sweeping: operations of the loop over a big frame. -/
import Derived.Test.YtknbehjhaaidoaaSwC
namespace Go.Proofs.Ytknbehjhaaidoaa.HD
open Go.RowKit Mem
section
variable {a : Act} {o : Oper} {w w' : World} {ops : Array Oper} {rest : List Oper} {Q : Exit → Act → World → Prop} {d : Option Tmp} {v : Value}
/-- A call whose value is told by its contract. -/
theorem wl_callG (A : Value → Act) (hw : Region.wanted o (yielded ops a.tmps) = true) (hd : o.dst = d) (ha : ∀ v, a.put d v = A v) (h : ∀ K : Act → World → Prop, (∀ (u : Value) (w' : World), WL ops Q rest (A u) w' → K (a.put o.dst u) w') → Oper.wp Try.prog o a w K Q) : WL ops Q (o :: rest) a w := by
  subst hd
  exact ⟨wpList_step fun K hK => by rw [if_pos hw]; exact h K fun u w' h1 => hK _ _ (by rw [ha]; exact h1.out)⟩
theorem wl_storeF {a' : Act} {ty : TypeId} {x y : Operand} (ho : o.op = .store ty x y) (b p : Nat) (cells : Array Value) (hw : Region.wanted o (yielded ops a.tmps) = true) (hd : o.dst = none) (ha : a.put none undef = a') (hx : a.eval x = .pointer (some ⟨b, p, none⟩)) (hy : a.eval y = .agg cells)
    (ht : w.there b p cells.size) (hi : (Try.prog.info? ty).map (·.size) = some cells.size) (h1 : cells.all (·.oneCell') = true) (h : WL ops Q rest a' (w.setCells b p cells.toList)) : WL ops Q (o :: rest) a w := by
  subst ha
  refine ⟨wpList_step fun K hK => ?_⟩
  rw [if_pos hw]
  refine wp_store_mid ty x y ho b p cells hx hy ht hi h1 ?_
  rw [hd]
  exact hK _ _ h.out
end
end Go.Proofs.Ytknbehjhaaidoaa.HD
namespace Go.Proofs.Ytknbehjhaaidoaa.IX
open Go.RowKit Go.Shelf Mem HD TB
set_option linter.unusedVariables false
set_option linter.unusedSimpArgs false
section
variable {a : Act} {o : Oper} {w : World} {ops : Array Oper} {rest : List Oper} {Q : Exit → Act → World → Prop} {d : Option Tmp}
theorem y_ixss {x y : Operand} {b off n c p : Nat} (ho : o.op = .indexAddr 46 x y) (hx : a.eval x = .slice (some ⟨b, off, none⟩) n c) (hy : a.eval y = .int .i64 (p : Int)) (hp : p < n) : (execOp a.eval o).run Try.prog w = .ok (.value (.pointer (some ⟨b, off + p, none⟩))) w := by
  have hp0 : (0 : Int) ≤ (p : Int) := by omega
  have hpi : (p : Int) < (n : Int) := by omega
  have ha : (⟨b, off, none⟩ : Addr).add p = ⟨b, off + p, none⟩ := add_plain _ _ _
  generalize a.eval = ev at hx hy
  unfold execOp
  simp only [ho, hx, hy]
  go_simp
theorem y_allocK (ho : o.op = .alloc 39) : (execOp a.eval o).run Try.prog w = .ok (.value (.pointer (some ⟨w.heap.size, 0, none⟩))) (w.alloc (.cells k0.L.toArray 39)) := by
  unfold execOp
  simp only [ho]
  go_simp
  rfl
theorem y_allocE (ho : o.op = .alloc 56) : (execOp a.eval o).run Try.prog w = .ok (.value (.pointer (some ⟨w.heap.size, 0, none⟩))) (w.alloc (.cells e0.L.toArray 56)) := by
  unfold execOp
  simp only [ho]
  go_simp
  rfl
theorem y_allocKV (ho : o.op = .alloc 58) : (execOp a.eval o).run Try.prog w = .ok (.value (.pointer (some ⟨w.heap.size, 0, none⟩))) (w.alloc (.cells (kvL none).toArray 58)) := by
  unfold execOp
  simp only [ho]
  go_simp
  rfl
theorem y_lssi {x y : Operand} {m n : Int} {d : Bool} (hd : decide (m < n) = d) (ho : o.op = .binOp .lss 3 x y 3) (hx : a.eval x = .int .i64 m) (hy : a.eval y = .int .i64 n) : (execOp a.eval o).run Try.prog w = .ok (.value (.bool d)) w := by
  subst hd
  generalize a.eval = ev at hx hy
  unfold execOp
  simp only [ho, hx, hy]
  go_simp
theorem y_subi {x y : Operand} {m n : Int} (hr : -9223372036854775808 ≤ m - n ∧ m - n ≤ 9223372036854775807) (ho : o.op = .binOp .sub 3 x y 3) (hx : a.eval x = .int .i64 m) (hy : a.eval y = .int .i64 n) : (execOp a.eval o).run Try.prog w = .ok (.value (.int .i64 (m - n))) w := by
  have hw := IntWalk.wrap64_in _ hr
  generalize a.eval = ev at hx hy
  unfold execOp
  simp only [ho, hx, hy]
  go_simp
  rw [IntKind.wrap_i64]; omega
theorem y_addi {x y : Operand} {m n : Int} (hr : -9223372036854775808 ≤ m + n ∧ m + n ≤ 9223372036854775807) (ho : o.op = .binOp .add 3 x y 3) (hx : a.eval x = .int .i64 m) (hy : a.eval y = .int .i64 n) : (execOp a.eval o).run Try.prog w = .ok (.value (.int .i64 (m + n))) w := by
  have hw := IntWalk.wrap64_in _ hr
  generalize a.eval = ev at hx hy
  unfold execOp
  simp only [ho, hx, hy]
  go_simp
  rw [IntKind.wrap_i64]; omega
set_option maxRecDepth 100000 in
theorem y_e0 (ho : o.op = .build 56 #[]) : (execOp a.eval o).run Try.prog w = .ok (.value (.agg e0.L.toArray)) w := by
  have h := run_build (P := Try.prog) w 56 #[] e0.L.toArray (by kernel_rfl)
  unfold execOp
  simp only [ho, List.map_toArray, List.map_nil, Sem.run_bind, h, Result.andThen_ok, Sem.run_pure]
set_option maxRecDepth 100000 in
theorem y_k0 (ho : o.op = .build 39 #[]) : (execOp a.eval o).run Try.prog w = .ok (.value (.agg k0.L.toArray)) w := by
  have h := run_build (P := Try.prog) w 39 #[] k0.L.toArray (by kernel_rfl)
  unfold execOp
  simp only [ho, List.map_toArray, List.map_nil, Sem.run_bind, h, Result.andThen_ok, Sem.run_pure]
theorem ent_sized (x : Int) : Try.prog.built 56 [(1, .int .i64 x)] = some (⟨0, 0, x, 0⟩ : Ent).L.toArray := by kernel_rfl
theorem y_eS {x : Operand} {n : Int} (ho : o.op = .build 56 #[(1, x)]) (hx : a.eval x = .int .i64 n) : (execOp a.eval o).run Try.prog w = .ok (.value (.agg (⟨0, 0, n, 0⟩ : Ent).L.toArray)) w := by
  have h := run_build (P := Try.prog) w 56 #[(1, .int .i64 n)] _ (ent_sized n)
  unfold execOp
  simp only [ho, hx, List.map_toArray, List.map_cons, List.map_nil, Sem.run_bind, h, Result.andThen_ok, Sem.run_pure]
theorem wl_kapp (A : Value → Act) {s q : Operand} (ho : o.op = .call { callee := .builtin .append, args := #[s, q], argTypes := #[45, 45] }) (hgd : o.guard = none) (hd : o.dst = d) (ha : ∀ v, a.put d v = A v) (base b : Nat) (v : Value) (l : List Key) (k : Key)
    (hs : a.eval s = v) (hq : a.eval q = .slice (some ⟨b, 0, none⟩) 1 1) (hown : KRow w base v l) (hb : Blk w b 39 k.L.toArray) (hn : l.length ≤ 2097152) (hbase : base ≤ w.heap.size)
    (h : ∀ v' w', KRow w' base v' (l ++ [k]) → w.grownBy w' v.ownBlock → (v'.ownBlock = v.ownBlock ∨ v'.ownBlock = some w.heap.size) → WL ops Q rest (A v') w') : WL ops Q (o :: rest) a w := by
  subst hd
  exact ⟨wpList_kapp hgd s q ho base b v l k hs hq hown hb hn hbase fun v' w' h1 h2 h3 => by rw [ha]; exact (h v' w' h1 h2 h3).out⟩
theorem wl_keyF {a' : Act} {x y : Operand} (ho : o.op = .store 39 x y) (b : Nat) (k : Key) (hw : Region.wanted o (yielded ops a.tmps) = true) (hd : o.dst = none) (ha : a.put none undef = a') (hx : a.eval x = .pointer (some ⟨b, 0, none⟩)) (hy : a.eval y = .agg k.L.toArray)
    {kk : Key} (hb : Blk w b 39 kk.L.toArray) (h : WL ops Q rest a' (w.setCells b 0 k.L)) : WL ops Q (o :: rest) a w :=
  wl_storeF ho b 0 k.L.toArray hw hd ha hx hy (blk_there hb 0 _ (by rw [List.size_toArray, List.size_toArray, Key.len, Key.len]; decide)) (by rw [List.size_toArray]; exact key_sizeG k.len) (all_oneCell_toArray (key_ones k)) h
theorem wl_entF {a' : Act} {x y : Operand} (ho : o.op = .store 56 x y) (b : Nat) (e : Ent) (hw : Region.wanted o (yielded ops a.tmps) = true) (hd : o.dst = none) (ha : a.put none undef = a') (hx : a.eval x = .pointer (some ⟨b, 0, none⟩)) (hy : a.eval y = .agg e.L.toArray)
    {ee : Ent} (hb : Blk w b 56 ee.L.toArray) (h : WL ops Q rest a' (w.setCells b 0 e.L)) : WL ops Q (o :: rest) a w :=
  wl_storeF ho b 0 e.L.toArray hw hd ha hx hy (blk_there hb 0 _ (Nat.le_refl 4)) (ent_sizeG e) (all_oneCell_toArray (ent_ones e)) h
theorem wl_kvF {a' : Act} {x y : Operand} (ho : o.op = .store 58 x y) (b : Nat) (r : Option (Key × Ent)) (hw : Region.wanted o (yielded ops a.tmps) = true) (hd : o.dst = none) (ha : a.put none undef = a') (hx : a.eval x = .pointer (some ⟨b, 0, none⟩)) (hy : a.eval y = .agg (kvL r).toArray)
    {rr : Option (Key × Ent)} (hb : Blk w b 58 (kvL rr).toArray) (h : WL ops Q rest a' (w.setCells b 0 (kvL r))) : WL ops Q (o :: rest) a w :=
  wl_storeF ho b 0 (kvL r).toArray hw hd ha hx hy (blk_there hb 0 _ (by rw [List.size_toArray, List.size_toArray, kvL_len, kvL_len]; decide)) (by rw [List.size_toArray]; exact keyed_sizeG (kvL_len r)) (all_oneCell_toArray (kvL_ones r)) h
end
/-- A fresh block, filled. -/
theorem fresh_key (w : World) (k : Key) : Mod no w ((w.alloc (.cells k0.L.toArray 39)).setCells w.heap.size 0 k.L) ∧ Blk ((w.alloc (.cells k0.L.toArray 39)).setCells w.heap.size 0 k.L) w.heap.size 39 k.L.toArray := by
  refine ⟨mod_setCells (fun c => absurd c (Nat.lt_irrefl _)) _ _ _ ((Mod.refl no w).alloc _), ?_⟩
  have h1 := blk_sets w.heap.size k.L 0 k0.L _ (Blk.new w 39 k0.L.toArray) (by rw [Key.len, Key.len]; decide)
  rw [show k0.L.take 0 ++ k.L ++ k0.L.drop (0 + k.L.length) = k.L from by rw [List.drop_of_length_le (by rw [Key.len, Key.len]; decide)]; simp] at h1
  exact h1
theorem fresh_ent (w : World) (e : Ent) : Mod no w ((w.alloc (.cells e0.L.toArray 56)).setCells w.heap.size 0 e.L) := mod_setCells (fun c => absurd c (Nat.lt_irrefl _)) _ _ _ ((Mod.refl no w).alloc _)
theorem fresh_kv (w : World) (r : Option (Key × Ent)) : Mod no w ((w.alloc (.cells (kvL none).toArray 58)).setCells w.heap.size 0 (kvL r)) ∧ Blk ((w.alloc (.cells (kvL none).toArray 58)).setCells w.heap.size 0 (kvL r)) w.heap.size 58 (kvL r).toArray := by
  refine ⟨mod_setCells (fun c => absurd c (Nat.lt_irrefl _)) _ _ _ ((Mod.refl no w).alloc _), ?_⟩
  have h1 := blk_sets w.heap.size (kvL r) 0 (kvL none) _ (Blk.new w 58 (kvL none).toArray) (by rw [kvL_len, kvL_len]; decide)
  rw [show (kvL none).take 0 ++ kvL r ++ (kvL none).drop (0 + (kvL r).length) = kvL r from by rw [List.drop_of_length_le (by rw [kvL_len, kvL_len]; decide)]; simp] at h1
  exact h1
end Go.Proofs.Ytknbehjhaaidoaa.IX
