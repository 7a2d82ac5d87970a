/- Sweeping: what is known of memory between two steps. -/
import Derived.Test.YtknbehjhaaidoaaSwA
import Derived.Test.YtknbehjhaaidoaaSwM
import Derived.Great.BuildSlice
namespace Go.Proofs.Ytknbehjhaaidoaa.IX
open Go.RowKit Go.Shelf Mem HD TB
set_option linter.unusedVariables false
set_option linter.unusedSimpArgs false
/-- A row of keys of the call's own. -/
def KRow (w : World) (base : Nat) (v : Value) (l : List Key) : Prop := w.ownsRow base 39 32 v l.length (l.map Key.L).flatten
theorem keyL_all (l : List Key) : ∀ y ∈ l.map Key.L, y.length = 32 := fun y hy => by obtain ⟨k, _, rfl⟩ := List.mem_map.1 hy; exact k.len
theorem KRow.nil (w : World) (base : Nat) : KRow w base (.slice none 0 0) [] := ⟨rfl, .inl ⟨rfl, rfl⟩⟩
theorem KRow.own {w : World} {base b : Nat} {v : Value} {l : List Key} (h : KRow w base v l) (hb : v.ownBlock = some b) : base ≤ b ∧ b < w.heap.size := by
  rcases h.2 with ⟨h1, _⟩ | ⟨g, cap, cur, h1, h2, h3, _⟩
  · rw [h1] at hb; cases hb
  · rw [h1] at hb
    have e : g = b := by injection hb
    subst e
    exact ⟨h2, Blk.lt (show Blk w g 39 cur from h3)⟩
theorem KRow.mod {S : Nat → Prop} {w w' : World} {base : Nat} {v : Value} {l : List Key} (h : KRow w base v l) (hm : Mod S w w') (hn : ∀ b, v.ownBlock = some b → ¬ S b) : KRow w' base v l := by
  refine ⟨h.1, ?_⟩
  rcases h.2 with h2 | ⟨g, cap, cur, h1, h2, h3, h4⟩
  · exact .inl h2
  · exact .inr ⟨g, cap, cur, h1, h2, (hm.block g (Blk.lt (show Blk w g 39 cur from h3)) (hn g (by rw [h1]; rfl))).trans h3, h4⟩
theorem KRow.kat {w : World} {base : Nat} {v : Value} {l : List Key} (h : KRow w base v l) : KAt w v l := by
  rcases h.2 with ⟨h1, h2⟩ | ⟨g, cap, cur, h1, h2, h3, h4, h5, h6, h7⟩
  · have : l = [] := List.eq_nil_of_length_eq_zero h2
    subst this
    exact ⟨none, 0, h1, fun i k hk => by cases hk⟩
  · refine ⟨some ⟨g, 0, none⟩, cap, h1, fun i k hk => ⟨g, 0, rfl, fun j v hv => ?_⟩⟩
    have hi := (List.getElem?_eq_some_iff.1 hk).1
    have hj := (List.getElem?_eq_some_iff.1 hv).1
    rw [k.len] at hj
    have hf := flat_get (sz := 32) (l.map Key.L) i k.L (keyL_all l) (by rw [List.getElem?_map, hk]; rfl) j v hv
    rw [← h7, List.getElem?_take] at hf
    have hb : Blk w g 39 cur := h3
    rw [hb.cell, Nat.zero_add]
    split at hf
    · simpa using hf
    · cases hf
/-- A row of rows of keys. -/
def CAt (w : World) (v : Value) (Cs : List (List Key)) : Prop := ∃ A c, v = .slice A Cs.length c ∧ ∀ (i : Nat) (l : List Key), Cs[i]? = some l → ∃ b o u, A = some ⟨b, o, none⟩ ∧ w.cell? ⟨b, o + i, none⟩ = some u ∧ KAt w u l
theorem CAt.mod {w w' : World} {v : Value} {Cs : List (List Key)} (h : CAt w v Cs) (m : Mod no w w') : CAt w' v Cs := by
  obtain ⟨A, c, rfl, hr⟩ := h
  refine ⟨A, c, rfl, fun i l hl => ?_⟩
  obtain ⟨b, o, u, rfl, h1, h2⟩ := hr i l hl
  exact ⟨b, o, u, rfl, (m.cell (p := ⟨b, o + i, none⟩) (cell_below h1) (fun c => c)).trans h1, h2.mod m (fun _ _ c => c)⟩
section
variable {a : Act} {o : Oper} {w w' : World}
theorem key_zero : (Try.prog.info? 39).map (fun i => (i.zero, i.size, i.bytes)) = some (some (.agg k0.L.toArray), 32, 32) := by kernel_rfl
theorem kslice_run (w : World) (k : Key) : (Instr.buildSlice 45 1 #[(0, .agg k.L.toArray)]).run Try.prog w = .ok (.slice (some ⟨w.heap.size, 0, none⟩) 1 1) (w.alloc (.cells k.L.toArray 39)) := by
  obtain ⟨i0, hi, hz0, hz1, hz2⟩ := info_parts key_zero
  refine run_buildSlice w _ _ 1 _ k.L.toArray i0 (.agg k0.L.toArray) Try.underlying45 hi hz0 (by rw [hz1]; decide) (by rw [hz1]; decide) ?_
  rw [hz1]
  have h := Great.fill_whole (s := 32) (by decide) [.agg k.L.toArray] ((Array.range (1 * 32)).map ((Value.agg k0.L.toArray).cells[· % (Value.agg k0.L.toArray).cells.size]!)) (fun v hv => by simp at hv; subst hv; simp [Value.cells, Key.len]) (by simp)
  rw [show ([Value.agg k.L.toArray].flatMap fun v => v.cells.toList).toArray = k.L.toArray from by simp [Value.cells]] at h
  exact h
theorem y_kslice {q : Operand} {k : Key} (ho : o.op = .buildSlice 45 1 #[(0, q)]) (hq : a.eval q = .agg k.L.toArray) : (execOp a.eval o).run Try.prog w = .ok (.value (.slice (some ⟨w.heap.size, 0, none⟩) 1 1)) (w.alloc (.cells k.L.toArray 39)) := by
  have h := kslice_run w k
  unfold execOp
  simp only [ho, hq, List.map_toArray, List.map_cons, List.map_nil, Sem.run_bind, h, Result.andThen_ok, Sem.run_pure]
end
theorem wpList_kone {ops : Array Oper} {rest : List Oper} {o : Oper} {a : Act} {w : World} {Q : Exit → Act → World → Prop} (hgd : o.guard = none) (q : Operand) (ho : o.op = .buildSlice 45 1 #[(0, q)]) (k : Key) (hq : a.eval q = .agg k.L.toArray)
    (h : wpList Try.prog ops Q rest (a.put o.dst (.slice (some ⟨w.heap.size, 0, none⟩) 1 1)) (w.alloc (.cells k.L.toArray 39))) : wpList Try.prog ops Q (o :: rest) a w :=
  wpList_plain hgd fun K hK => op_yield (y_kslice ho hq) (hK _ _ h)
theorem wpList_kapp {ops : Array Oper} {rest : List Oper} {o : Oper} {a : Act} {w : World} {Q : Exit → Act → World → Prop} (hgd : o.guard = none) (s q : Operand) (ho : o.op = .call { callee := .builtin .append, args := #[s, q], argTypes := #[45, 45] }) (base b : Nat) (v : Value) (l : List Key) (k : Key)
    (hs : a.eval s = v) (hq : a.eval q = .slice (some ⟨b, 0, none⟩) 1 1) (hown : KRow w base v l) (hb : Blk w b 39 k.L.toArray) (hn : l.length ≤ 2097152) (hbase : base ≤ w.heap.size)
    (h : ∀ v' w', KRow w' base v' (l ++ [k]) → w.grownBy w' v.ownBlock → (v'.ownBlock = v.ownBlock ∨ v'.ownBlock = some w.heap.size) → wpList Try.prog ops Q rest (a.put o.dst v') w') : wpList Try.prog ops Q (o :: rest) a w := by
  obtain ⟨i0, hi, hz0, hz1, hz2⟩ := info_parts key_zero
  refine wpList_append w hgd s q 45 ho base 39 i0 (.agg k0.L.toArray) 32 32 Try.underlying45 hi hz0 hz1 hz2 rfl (by decide) v l.length (l.map Key.L).flatten hs hown (some ⟨b, 0, none⟩) 1 1 k.L hq (Rds.of_blk hb (by rw [k.len]) (fun j u hu => by rw [Nat.zero_add, List.getElem?_toArray]; exact hu)) (key_ones k) (by simp only [maxLen]; omega) (by omega) hbase ?_
  intro v' w' h2 h3 h4 _
  refine h v' w' ?_ h3 h4
  show w'.ownsRow base 39 32 v' (l ++ [k]).length ((l ++ [k]).map Key.L).flatten
  rw [List.length_append, List.map_append, List.flatten_append]
  simpa using h2
/-- Between two steps. -/
structure SS (w : World) (g h0 h8 : Nat) (s1 s2 : Value) (R : Nat → Prop) (T : Nat → Tab Key Ent) (P : Nat → Nat) (Rs : Nat → Nat → Prop) (r : Option (Key × Ent)) (gone told : List Key) (gv tv : Value) (W : World) : Prop where
  ix : IxAt W g R T P Rs
  box : Blk W h0 48 #[s1, s2]
  hat : Blk W h8 58 (kvL r).toArray
  gr : KRow W (h8 + 1) gv gone
  tr : KRow W (h8 + 1) tv told
  gn : ∀ b, gv.ownBlock = some b → ¬ R b
  tn : ∀ b, tv.ownBlock = some b → ¬ R b
  gt : ∀ b, gv.ownBlock = some b → tv.ownBlock ≠ some b
  n0 : ¬ R h0
  n8 : ¬ R h8
  rw : ∀ x, R x → w.heap.size ≤ x ∧ x < W.heap.size
  lo : Mod no w W
  o : w.heap.size ≤ h0 ∧ h0 < h8
section
variable {w W W' : World} {g h0 h8 : Nat} {s1 s2 gv tv : Value} {R : Nat → Prop} {T T' : Nat → Tab Key Ent} {P : Nat → Nat} {Rs Rs' : Nat → Nat → Prop} {r : Option (Key × Ent)} {gone told : List Key}
theorem SS.mod0 (h : SS w g h0 h8 s1 s2 R T P Rs r gone told gv tv W) (m : Mod no W W') : SS w g h0 h8 s1 s2 R T P Rs r gone told gv tv W' :=
  ⟨h.ix.mod m (fun _ _ c => c), h.box.mod m (fun c => c), h.hat.mod m (fun c => c), h.gr.mod m (fun _ _ c => c), h.tr.mod m (fun _ _ c => c), h.gn, h.tn, h.gt, h.n0, h.n8, fun x hx => ⟨(h.rw x hx).1, Nat.lt_of_lt_of_le (h.rw x hx).2 m.size⟩, h.lo.and_then m, h.o⟩
theorem SS.ixs (h : SS w g h0 h8 s1 s2 R T P Rs r gone told gv tv W) (m : Mod R W W') (hx : IxAt W' g (ext R W W') T' P Rs') : SS w g h0 h8 s1 s2 (ext R W W') T' P Rs' r gone told gv tv W' := by
  have nb : ∀ b, b < W.heap.size → ¬ R b → ¬ ext R W W' b := fun b hb hn c => by
    rcases c with c | c
    · exact hn c
    · omega
  refine ⟨hx, h.box.mod m h.n0, h.hat.mod m h.n8, h.gr.mod m h.gn, h.tr.mod m h.tn, fun b hb => nb b (h.gr.own hb).2 (h.gn b hb), fun b hb => nb b (h.tr.own hb).2 (h.tn b hb), h.gt, nb _ h.box.lt h.n0, nb _ h.hat.lt h.n8, fun x hx => ?_, h.lo.trans m (fun k hk c => by have := (h.rw k c).1; omega), h.o⟩
  rcases hx with hx | hx
  · exact ⟨(h.rw x hx).1, Nat.lt_of_lt_of_le (h.rw x hx).2 m.size⟩
  · have := h.lo.size; exact ⟨by omega, hx.2⟩
theorem SS.tell {k : Key} {tv' : Value} (h : SS w g h0 h8 s1 s2 R T P Rs r gone told gv tv W) (hr : KRow W' (h8 + 1) tv' (told ++ [k])) (hg : W.grownBy W' tv.ownBlock) (ho : tv'.ownBlock = tv.ownBlock ∨ tv'.ownBlock = some W.heap.size) : SS w g h0 h8 s1 s2 R T P Rs r gone (told ++ [k]) gv tv' W' := by
  have m : Mod (fun b => tv.ownBlock = some b) W W' := Mod.of_grown hg (fun _ _ e => e)
  have hb : ∀ b, tv.ownBlock = some b → h8 + 1 ≤ b := fun b e => (h.tr.own e).1
  have ho8 := h.o
  refine ⟨h.ix.mod m (fun x hx c => h.tn x c hx), h.box.mod m (fun c => by have := hb _ c; omega), h.hat.mod m (fun c => by have := hb _ c; omega), h.gr.mod m (fun b e c => h.gt b e c), hr, h.gn, fun b e c => ?_, fun b e c => ?_, h.n0, h.n8, fun x hx => ⟨(h.rw x hx).1, Nat.lt_of_lt_of_le (h.rw x hx).2 m.size⟩, h.lo.trans m (fun k hk c => by have := hb k c; omega), h.o⟩
  · rcases ho with ho | ho
    · rw [ho] at e; exact h.tn b e c
    · rw [ho] at e; injection e with e; have := (h.rw b c).2; omega
  · rcases ho with ho | ho
    · rw [ho] at c; exact h.gt b e c
    · rw [ho] at c; injection c with c; have := (h.gr.own e).2; omega
theorem SS.leave {k : Key} {gv' : Value} (h : SS w g h0 h8 s1 s2 R T P Rs r gone told gv tv W) (hr : KRow W' (h8 + 1) gv' (gone ++ [k])) (hg : W.grownBy W' gv.ownBlock) (ho : gv'.ownBlock = gv.ownBlock ∨ gv'.ownBlock = some W.heap.size) : SS w g h0 h8 s1 s2 R T P Rs r (gone ++ [k]) told gv' tv W' := by
  have m : Mod (fun b => gv.ownBlock = some b) W W' := Mod.of_grown hg (fun _ _ e => e)
  have hb : ∀ b, gv.ownBlock = some b → h8 + 1 ≤ b := fun b e => (h.gr.own e).1
  have ho8 := h.o
  refine ⟨h.ix.mod m (fun x hx c => h.gn x c hx), h.box.mod m (fun c => by have := hb _ c; omega), h.hat.mod m (fun c => by have := hb _ c; omega), hr, h.tr.mod m (fun b e c => h.gt b c e), fun b e c => ?_, h.tn, fun b e c => ?_, h.n0, h.n8, fun x hx => ⟨(h.rw x hx).1, Nat.lt_of_lt_of_le (h.rw x hx).2 m.size⟩, h.lo.trans m (fun k hk c => by have := hb k c; omega), h.o⟩
  · rcases ho with ho | ho
    · rw [ho] at e; exact h.gn b e c
    · rw [ho] at e; injection e with e; have := (h.rw b c).2; omega
  · rcases ho with ho | ho
    · rw [ho] at e; exact h.gt b e c
    · rw [ho] at e; injection e with e; have := (h.tr.own c).2; omega
theorem SS.next (h : SS w g h0 h8 s1 s2 R T P Rs r gone told gv tv W) (r' : Option (Key × Ent)) : SS w g h0 h8 s1 s2 R T P Rs r' gone told gv tv (W.setCells h8 0 (kvL r')) := by
  have m : Mod (one h8) W (W.setCells h8 0 (kvL r')) := mod_setCells (S := one h8) (fun _ => rfl) _ _ _ (Mod.refl _ _)
  have hg : ∀ b, gv.ownBlock = some b → ¬ one h8 b := fun b e c => by have c : b = h8 := c; have := (h.gr.own e).1; omega
  have ht : ∀ b, tv.ownBlock = some b → ¬ one h8 b := fun b e c => by have c : b = h8 := c; have := (h.tr.own e).1; omega
  have ho8 := h.o
  refine ⟨h.ix.mod m (fun x hx c => h.n8 (by have c : x = h8 := c; rw [← c]; exact hx)), h.box.mod m (fun c => by have c : h0 = h8 := c; omega), ?_, h.gr.mod m hg, h.tr.mod m ht, h.gn, h.tn, h.gt, h.n0, h.n8, fun x hx => ⟨(h.rw x hx).1, Nat.lt_of_lt_of_le (h.rw x hx).2 m.size⟩, h.lo.trans m (fun k hk c => by have c : k = h8 := c; omega), h.o⟩
  have h1 := blk_sets h8 (kvL r') 0 (kvL r) W h.hat (by rw [kvL_len, kvL_len]; decide)
  rw [show (kvL r).take 0 ++ kvL r' ++ (kvL r).drop (0 + (kvL r').length) = kvL r' from by rw [List.drop_of_length_le (by rw [kvL_len, kvL_len]; decide)]; simp] at h1
  exact h1
end
end Go.Proofs.Ytknbehjhaaidoaa.IX
