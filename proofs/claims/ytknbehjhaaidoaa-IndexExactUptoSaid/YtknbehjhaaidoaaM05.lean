/- IndexExact: the texts TbA TbY TbY2 of this seat, one behind the other. -/
import Derived.Test.YtknbehjhaaidoaaM04
import Derived.Test.YtknbehjhaaidoaaM01
import Derived.Test.YtknbehjhaaidoaaM03
import Derived.Test.YtknbehjhaaidoaaM02
import Derived.Stop.BytesEq
import Derived.Deep.MidRow
import Derived.Laws.Bits64b
import Derived.Laws.StructEq
/- A table's slots in memory. -/
namespace Go.Proofs.Ytknbehjhaaidoaa.TB
open Go.RowKit Mem
set_option linter.unusedVariables false
set_option linter.unusedSimpArgs false

/-! ### Rows of elements of sz cells -/
section
variable {sz : Nat}
theorem flat_get : ∀ (C : List (List Value)) (p : Nat) (x : List Value), (∀ y ∈ C, y.length = sz) → C[p]? = some x → ∀ (k : Nat) (v : Value), x[k]? = some v → C.flatten[p * sz + k]? = some v
  | [], p, x, _, h, _, _, _ => by simp at h
  | y :: C, 0, x, hl, h, k, v, hv => by
    simp at h
    subst h
    have hk := (List.getElem?_eq_some_iff.1 hv).1
    rw [List.flatten_cons, Nat.zero_mul, Nat.zero_add, List.getElem?_append_left hk]
    exact hv
  | y :: C, p + 1, x, hl, h, k, v, hv => by
    have hy := hl y (by simp)
    rw [List.flatten_cons, List.getElem?_append_right (by rw [hy, Nat.succ_mul]; omega), hy, show (p + 1) * sz + k - sz = p * sz + k by rw [Nat.succ_mul]; omega]
    exact flat_get C p x (fun z hz => hl z (by simp [hz])) (by simpa using h) k v hv
theorem flat_len : ∀ (C : List (List Value)), (∀ y ∈ C, y.length = sz) → C.flatten.length = C.length * sz
  | [], _ => by simp
  | y :: C, hl => by
    rw [List.flatten_cons, List.length_append, hl y (by simp), flat_len C (fun z hz => hl z (by simp [hz])), List.length_cons, Nat.succ_mul]
    omega
theorem flat_set : ∀ (C : List (List Value)) (p : Nat) (x : List Value), (∀ y ∈ C, y.length = sz) → p < C.length → (C.set p x).flatten = C.flatten.take (p * sz) ++ x ++ C.flatten.drop (p * sz + sz)
  | [], p, x, _, h => by simp at h
  | y :: C, 0, x, hl, h => by
    have hy := hl y (by simp)
    simp only [List.set_cons_zero, List.flatten_cons, Nat.zero_mul, List.take_zero, List.nil_append, Nat.zero_add]
    rw [← hy, List.drop_left]
  | y :: C, p + 1, x, hl, h => by
    have hy := hl y (by simp)
    have ih := flat_set C p x (fun z hz => hl z (by simp [hz])) (by simpa using h)
    simp only [List.set_cons_succ, List.flatten_cons]
    rw [ih, show (p + 1) * sz = y.length + p * sz by rw [Nat.succ_mul]; omega, List.take_length_add_append, show y.length + p * sz + sz = y.length + (p * sz + sz) by omega, List.drop_length_add_append]
    simp
end
theorem blk_sets {t : TypeId} (b : Nat) : ∀ (vs : List Value) (o : Nat) (Z : List Value) (w : World), Blk w b t Z.toArray → o + vs.length ≤ Z.length → Blk (w.setCells b o vs) b t (Z.take o ++ vs ++ Z.drop (o + vs.length)).toArray
  | [], o, Z, w, h, hz => by
    simp only [List.append_nil, List.length_nil, Nat.add_zero, List.take_append_drop]
    exact h
  | v :: vs, o, Z, w, h, hz => by
    have h1 := h.put o v
    rw [List.setIfInBounds_toArray] at h1
    have ih := blk_sets b vs (o + 1) (Z.set o v) (w.setCell ⟨b, o, none⟩ v) h1 (by simp at hz ⊢; omega)
    have ho : o < Z.length := by simp at hz; omega
    have e : (Z.set o v).take (o + 1) ++ vs ++ (Z.set o v).drop (o + 1 + vs.length) = Z.take o ++ (v :: vs) ++ Z.drop (o + (v :: vs).length) := by
      rw [List.take_add_one, List.take_set_of_le (by omega), List.getElem?_set_self ho, List.drop_set_of_lt (by omega)]
      simp [Nat.add_assoc, Nat.add_comm 1]
    rw [e] at ih
    exact ih
theorem mod_setCells {S : Nat → Prop} {w : World} {b : Nat} (hS : b < w.heap.size → S b) : ∀ (vs : List Value) (o : Nat) (w' : World), Mod S w w' → Mod S w (w'.setCells b o vs)
  | [], _, _, h => h
  | v :: vs, o, w', h => mod_setCells hS vs (o + 1) _ (h.set (p := ⟨b, o, none⟩) hS v)
theorem range_setCells {w : World} {g b o o' : Nat} {x : List Value} (h : g ≠ b) (hr : w.rangeAt g o x) (vs : List Value) : (w.setCells b o' vs).rangeAt g o x := fun j v hv => by
  have e : ∀ (vs : List Value) (o' : Nat) (w : World), w.cell? ⟨g, o + j, none⟩ = some v → (w.setCells b o' vs).cell? ⟨g, o + j, none⟩ = some v := by
    intro vs
    induction vs with
    | nil => intro o' w h; exact h
    | cons u vs ih => intro o' w h1; exact ih _ _ ((World.cell?_of_block (Below.heap_setCell w ⟨b, o', none⟩ u g h)).trans h1)
  exact e vs o' w (hr j v hv)

/-! ### Keys, entries, slots -/
/-- A key of these bytes. -/
def kOf (bs : List UInt8) : List Value := bs.map Extern.Stop.cell
theorem kOf_len (bs : List UInt8) : (kOf bs).length = bs.length := by simp [kOf]
/-- A key: 32 bytes. -/
abbrev Key := {bs : List UInt8 // bs.length = 32}
def Key.L (k : Key) : List Value := kOf k.1
theorem Key.len (k : Key) : k.L.length = 32 := by unfold Key.L; rw [kOf_len]; exact k.2
/-- What the index has under a key. -/
structure Ent where
  seg : Int
  off : Int
  size : Int
  mark : Int
def Ent.L (e : Ent) : List Value := [.int .i64 e.seg, .int .i64 e.off, .int .i64 e.size, .int .u32 e.mark]
theorem Ent.len (e : Ent) : e.L.length = 4 := rfl
def k0 : Key := ⟨List.replicate 32 0, rfl⟩
def e0 : Ent := ⟨0, 0, 0, 0⟩
abbrev Sl := Slot Key Ent
def stO : Sl → Int
  | .empty => 0
  | .full _ _ => 1
  | .tomb => 2
def keyO : Sl → Key
  | .full k _ => k
  | _ => k0
def entO : Sl → Ent
  | .full _ e => e
  | _ => e0
def slotL (s : Sl) : List Value := .int .u8 (stO s) :: ((keyO s).L ++ (entO s).L)
theorem slotL_len (s : Sl) : (slotL s).length = 37 := by
  unfold slotL
  rw [List.length_cons, List.length_append, Key.len, Ent.len]
def rowL (l : List Sl) : List (List Value) := l.map slotL
theorem rowL_len (l : List Sl) : ∀ y ∈ rowL l, y.length = 37 := fun y hy => by
  obtain ⟨s, _, rfl⟩ := List.mem_map.1 hy
  exact slotL_len s
theorem rowL_get {l : List Sl} {n : Nat} {s : Sl} (h : l[n]? = some s) : (rowL l)[n]? = some (slotL s) := by
  unfold rowL
  rw [List.getElem?_map, h]
  rfl
theorem rowL_set (l : List Sl) (n : Nat) (s : Sl) : rowL (l.set n s) = (rowL l).set n (slotL s) := by
  unfold rowL
  rw [List.map_set]

/-- An array of slots: block ga has it, the slots lie in block gs. -/
structure ArrAt (w : World) (ga gs : Nat) (l : List Sl) (u t : Nat) : Prop where
  a : Blk w ga 136 #[.slice (some ⟨gs, 0, none⟩) l.length l.length, .int .i64 (u : Int), .int .i64 (t : Int)]
  s : Blk w gs 133 (rowL l).flatten.toArray
section
variable {S : Nat → Prop} {w w' : World} {ga gs u t n : Nat} {l : List Sl} {s : Sl}
theorem ArrAt.mod (h : ArrAt w ga gs l u t) (hm : Mod S w w') (h1 : ¬ S ga) (h2 : ¬ S gs) : ArrAt w' ga gs l u t := ⟨h.a.mod hm h1, h.s.mod hm h2⟩
theorem ArrAt.ne (h : ArrAt w ga gs l u t) : ga ≠ gs := h.a.ne h.s (by decide)
theorem ArrAt.range (h : ArrAt w ga gs l u t) (hn : l[n]? = some s) : w.rangeAt gs (n * 37) (slotL s) := fun j v hv => by
  rw [h.s.cell, List.getElem?_toArray]
  exact flat_get _ n _ (rowL_len l) (rowL_get hn) j v hv
theorem ArrAt.st (h : ArrAt w ga gs l u t) (hn : l[n]? = some s) : w.cell? ⟨gs, n * 37, none⟩ = some (.int .u8 (stO s)) := h.range hn 0 _ rfl
theorem ArrAt.key (h : ArrAt w ga gs l u t) (hn : l[n]? = some s) : w.rangeAt gs (n * 37 + 1) (keyO s).L := fun j v hv => by
  have h1 := h.range hn (j + 1) v (by
    unfold slotL
    rw [List.getElem?_cons_succ]
    have hk := (List.getElem?_eq_some_iff.1 hv).1
    rw [List.getElem?_append_left hk]
    exact hv)
  rw [show n * 37 + 1 + j = n * 37 + (j + 1) by omega]
  exact h1
theorem ArrAt.ent (h : ArrAt w ga gs l u t) (hn : l[n]? = some s) : w.rangeAt gs (n * 37 + 33) (entO s).L := fun j v hv => by
  have h1 := h.range hn (j + 33) v (by
    unfold slotL
    rw [show j + 33 = (j + 32) + 1 by omega, List.getElem?_cons_succ, List.getElem?_append_right (by rw [Key.len]; omega), Key.len, show j + 32 - 32 = j by omega]
    exact hv)
  rw [show n * 37 + 33 + j = n * 37 + (j + 33) by omega]
  exact h1
theorem ArrAt.there (h : ArrAt w ga gs l u t) (hn : n < l.length) : w.there gs (n * 37) 37 := fun j hj => by
  refine ⟨?_, h.s.free _⟩
  rw [h.s.cell, List.getElem?_toArray, List.getElem?_eq_getElem (by rw [flat_len _ (rowL_len l)]; unfold rowL; rw [List.length_map]; omega)]
  rfl
/-- A slot is stored. -/
theorem ArrAt.put (h : ArrAt w ga gs l u t) (hn : n < l.length) (s : Sl) : Blk (w.setCells gs (n * 37) (slotL s)) gs 133 (rowL (l.set n s)).flatten.toArray := by
  have hl : (rowL l).length = l.length := by unfold rowL; rw [List.length_map]
  have h1 := blk_sets gs (slotL s) (n * 37) (rowL l).flatten w h.s (by rw [flat_len _ (rowL_len l), slotL_len, hl]; omega)
  rw [slotL_len] at h1
  rw [rowL_set, flat_set _ n _ (rowL_len l) (by rw [hl]; exact hn)]
  exact h1
end

/-! ### What a key's type is -/
theorem key_sizeG {k : List Value} (h : k.length = 32) : (Try.prog.info? 39).map (·.size) = some k.length := by
  rw [h]
  kernel_rfl
theorem ent_sizeG (e : Ent) : (Try.prog.info? 56).map (·.size) = some e.L.length := by
  rw [Ent.len]
  kernel_rfl
theorem slot_sizeG (s : Sl) : (Try.prog.info? 133).map (·.size) = some (slotL s).length := by
  rw [slotL_len]
  kernel_rfl
theorem size_u8 (w : World) : (sizeOf 5).run Try.prog w = .ok 1 w := by
  obtain ⟨i0, hi, hs⟩ : ∃ i0, Try.prog.info? 5 = some i0 ∧ i0.size = 1 := by
    have h : (Try.prog.info? 5).map (·.size) = some 1 := by kernel_rfl
    cases hi : Try.prog.info? 5 with
    | none => rw [hi] at h; cases h
    | some i0 => rw [hi] at h; injection h with h; exact ⟨i0, rfl, h⟩
  simp [sizeOf, typeInfo, hi, hs]
theorem key_equal (a b : Key) (w : World) : (Op.equalIn 10000 39 (.agg a.L.toArray) (.agg b.L.toArray)).run Try.prog w = .ok (a.1 == b.1) w :=
  run_equalIn_bytes (P := Try.prog) w 9998 39 5 32 Try.underlying39 Try.underlying5 size_u8 a.1 b.1 a.2 b.2
theorem key_guard : Try.prog.eqGuardType Try.prog.depth 39 = false := by kernel_rfl
theorem key_eq_iff (a b : Key) : (a.1 == b.1) = decide (a = b) := by
  by_cases h : a = b
  · rw [decide_eq_true h, h]; simp
  · rw [decide_eq_false h]
    exact beq_eq_false_iff_ne.2 fun c => h (Subtype.ext c)
end Go.Proofs.Ytknbehjhaaidoaa.TB

/- The operations of a table's functions, one lemma a kind. -/
namespace Go.Proofs.Ytknbehjhaaidoaa.TB
open Go.RowKit Mem HD
set_option linter.unusedVariables false
set_option linter.unusedSimpArgs false

section
variable {a : Act} {o : Oper} {w : World}
/-- A whole key, entry or slot is loaded. -/
theorem y_mid {x : Operand} {ty : TypeId} {b off : Nat} {cs : List Value} {d : TypeDesc} (ho : o.op = .load ty x) (hx : a.eval x = .pointer (some ⟨b, off, none⟩)) (hc : w.rangeAt b off cs)
    (hu : Try.prog.underlying ty = some d) (hd : d.isRow = true) (hi : (Try.prog.info? ty).map (·.size) = some cs.length) : (execOp a.eval o).run Try.prog w = .ok (.value (.agg cs.toArray)) w := by
  generalize a.eval = ev at hx
  unfold execOp
  simp only [ho, hx, Sem.run_bind, run_loadAt_mid w b off ty cs d hc hu hd hi, Result.andThen_ok, Sem.run_pure]
theorem y_key {x : Operand} {b off : Nat} {k : Key} (ho : o.op = .load 39 x) (hx : a.eval x = .pointer (some ⟨b, off, none⟩)) (hc : w.rangeAt b off k.L) : (execOp a.eval o).run Try.prog w = .ok (.value (.agg k.L.toArray)) w :=
  y_mid ho hx hc Try.underlying39 rfl (key_sizeG k.len)
theorem y_ent {x : Operand} {b off : Nat} {e : Ent} (ho : o.op = .load 56 x) (hx : a.eval x = .pointer (some ⟨b, off, none⟩)) (hc : w.rangeAt b off e.L) : (execOp a.eval o).run Try.prog w = .ok (.value (.agg e.L.toArray)) w :=
  y_mid ho hx hc Try.underlying56 rfl (ent_sizeG e)
theorem y_slot {x : Operand} {b off : Nat} {s : Sl} (ho : o.op = .load 133 x) (hx : a.eval x = .pointer (some ⟨b, off, none⟩)) (hc : w.rangeAt b off (slotL s)) : (execOp a.eval o).run Try.prog w = .ok (.value (.agg (slotL s).toArray)) w :=
  y_mid ho hx hc Try.underlying133 rfl (slot_sizeG s)
theorem y_one {x : Operand} {t : TypeId} {p : Addr} {v : Value} (ho : o.op = .load t x) (ht : t = 3 ∨ t = 134 ∨ t = 5 ∨ t = 124 ∨ t = 105) (hx : a.eval x = .pointer (some p)) (hc : w.cell? p = some v) (hv : v.oneCell' = true) : (execOp a.eval o).run Try.prog w = .ok (.value v) w := by
  generalize a.eval = ev at hx
  unfold execOp
  rcases ht with rfl | rfl | rfl | rfl | rfl
  all_goals
    simp only [ho, hx]
    go_simp
theorem y_eqK {x y : Operand} {k k' : Key} (ho : o.op = .binOp .eql 39 x y 39) (hx : a.eval x = .agg k.L.toArray) (hy : a.eval y = .agg k'.L.toArray) :
    (execOp a.eval o).run Try.prog w = .ok (.value (.bool (decide (k = k')))) w := by
  generalize a.eval = ev at hx hy
  unfold execOp
  simp only [ho, hx, hy, Sem.run_bind, run_eqGuard_agg (P := Try.prog) w .eql 39 x y k.L.toArray k'.L.toArray key_guard, Result.andThen_ok, run_eql_struct, key_equal, Sem.run_pure, key_eq_iff]
/-- A slot's fields. -/
theorem y_st {x : Operand} {b off : Nat} (ho : o.op = .fieldAddr 133 x 0) (hx : a.eval x = .pointer (some ⟨b, off, none⟩)) : (execOp a.eval o).run Try.prog w = .ok (.value (.pointer (some ⟨b, off, none⟩))) w := by
  generalize a.eval = ev at hx
  unfold execOp
  simp only [ho, hx]
  go_simp
theorem y_sk {x : Operand} {b off : Nat} (ho : o.op = .fieldAddr 133 x 1) (hx : a.eval x = .pointer (some ⟨b, off, none⟩)) : (execOp a.eval o).run Try.prog w = .ok (.value (.pointer (some ⟨b, off + 1, none⟩))) w := by
  generalize a.eval = ev at hx
  unfold execOp
  simp only [ho, hx]
  go_simp
theorem y_sv {x : Operand} {b off : Nat} (ho : o.op = .fieldAddr 133 x 2) (hx : a.eval x = .pointer (some ⟨b, off, none⟩)) : (execOp a.eval o).run Try.prog w = .ok (.value (.pointer (some ⟨b, off + 33, none⟩))) w := by
  generalize a.eval = ev at hx
  unfold execOp
  simp only [ho, hx]
  go_simp
/-- An array's, a table's fields. -/
theorem y_fa {x : Operand} {g k : Nat} (hk : k < 3) (ho : o.op = .fieldAddr 136 x k) (hx : a.eval x = .pointer (some ⟨g, 0, none⟩)) : (execOp a.eval o).run Try.prog w = .ok (.value (.pointer (some ⟨g, k, none⟩))) w := by
  generalize a.eval = ev at hx
  obtain rfl | rfl | rfl : k = 0 ∨ k = 1 ∨ k = 2 := by omega
  all_goals
    unfold execOp
    simp only [ho, hx]
    go_simp
theorem y_ft {x : Operand} {g k : Nat} (hk : k < 4) (ho : o.op = .fieldAddr 127 x k) (hx : a.eval x = .pointer (some ⟨g, 0, none⟩)) : (execOp a.eval o).run Try.prog w = .ok (.value (.pointer (some ⟨g, k, none⟩))) w := by
  generalize a.eval = ev at hx
  obtain rfl | rfl | rfl | rfl : k = 0 ∨ k = 1 ∨ k = 2 ∨ k = 3 := by omega
  all_goals
    unfold execOp
    simp only [ho, hx]
    go_simp
theorem y_ix {x y : Operand} {gs R p c : Nat} (ho : o.op = .indexAddr 134 x y) (hx : a.eval x = .slice (some ⟨gs, 0, none⟩) R c) (hy : a.eval y = .int .i64 (p : Int)) (hp : p < R) : (execOp a.eval o).run Try.prog w = .ok (.value (.pointer (some ⟨gs, p * 37, none⟩))) w := by
  have hp0 : (0 : Int) ≤ (p : Int) := by omega
  have hpi : (p : Int) < (R : Int) := by omega
  generalize a.eval = ev at hx hy
  unfold execOp
  simp only [ho, hx, hy]
  go_simp
end

/-! ### A slot is built -/
set_option maxRecDepth 100000 in
theorem slot_places : ∀ fields, Try.prog.underlying 133 = some (.struct fields) → fields.toList.mapM (fun f => (Try.prog.info? f.type).map fun i => (f.offset, i.size)) = some [(0, 1), (1, 32), (33, 4)] := by
  intro fields h
  have h1 := Try.underlying133.symm.trans h
  injection h1 with h1
  injection h1 with h1
  subst h1
  rfl
end Go.Proofs.Ytknbehjhaaidoaa.TB

/- A slot is built out of its parts; a whole slot, key, entry is stored. -/
namespace Go.Proofs.Ytknbehjhaaidoaa.TB
open Go.RowKit Mem HD
set_option linter.unusedVariables false
set_option linter.unusedSimpArgs false

set_option maxRecDepth 100000 in
theorem built_parts (z a0 a1 a2 a3 a4 a5 a6 a7 a8 a9 a10 a11 a12 a13 a14 a15 a16 a17 a18 a19 a20 a21 a22 a23 a24 a25 a26 a27 a28 a29 a30 a31 e0 e1 e2 e3 : Value) : Try.prog.built 133 [(0, .int .u8 1), (1, .agg #[a0, a1, a2, a3, a4, a5, a6, a7, a8, a9, a10, a11, a12, a13, a14, a15, a16, a17, a18, a19, a20, a21, a22, a23, a24, a25, a26, a27, a28, a29, a30, a31]), (2, .agg #[e0, e1, e2, e3])] = some #[.int .u8 1, a0, a1, a2, a3, a4, a5, a6, a7, a8, a9, a10, a11, a12, a13, a14, a15, a16, a17, a18, a19, a20, a21, a22, a23, a24, a25, a26, a27, a28, a29, a30, a31, e0, e1, e2, e3] := by
  kernel_rfl
theorem slot_built {k e : List Value} (hk : k.length = 32) (he : e.length = 4) : Try.prog.built 133 [(0, .int .u8 1), (1, .agg k.toArray), (2, .agg e.toArray)] = some (.int .u8 1 :: (k ++ e)).toArray := by
  match k, hk, e, he with
  | [a0, a1, a2, a3, a4, a5, a6, a7, a8, a9, a10, a11, a12, a13, a14, a15, a16, a17, a18, a19, a20, a21, a22, a23, a24, a25, a26, a27, a28, a29, a30, a31], _, [e0, e1, e2, e3], _ => exact built_parts (.int .u8 0) a0 a1 a2 a3 a4 a5 a6 a7 a8 a9 a10 a11 a12 a13 a14 a15 a16 a17 a18 a19 a20 a21 a22 a23 a24 a25 a26 a27 a28 a29 a30 a31 e0 e1 e2 e3
set_option maxRecDepth 100000 in
theorem tomb_built : Try.prog.built 133 [(0, .int .u8 2)] = some (slotL .tomb).toArray := by
  kernel_rfl
section
variable {a : Act} {o : Oper} {w : World}
theorem y_full {x y z : Operand} {k : Key} {e : Ent} (ho : o.op = .build 133 #[(0, x), (1, y), (2, z)]) (hx : a.eval x = .int .u8 1) (hy : a.eval y = .agg k.L.toArray) (hz : a.eval z = .agg e.L.toArray) : (execOp a.eval o).run Try.prog w = .ok (.value (.agg (slotL (.full k e)).toArray)) w := by
  have h := run_build (P := Try.prog) w 133 #[(0, .int .u8 1), (1, .agg k.L.toArray), (2, .agg e.L.toArray)] _ (slot_built k.len e.len)
  unfold execOp
  simp only [ho, hx, hy, hz, List.map_toArray, List.map_cons, List.map_nil, Sem.run_bind, h, Result.andThen_ok, Sem.run_pure]
  rfl
theorem y_tomb {x : Operand} (ho : o.op = .build 133 #[(0, x)]) (hx : a.eval x = .int .u8 2) : (execOp a.eval o).run Try.prog w = .ok (.value (.agg (slotL .tomb).toArray)) w := by
  have h := run_build (P := Try.prog) w 133 #[(0, .int .u8 2)] _ tomb_built
  unfold execOp
  simp only [ho, hx, List.map_toArray, List.map_cons, List.map_nil, Sem.run_bind, h, Result.andThen_ok, Sem.run_pure]
end
theorem wpList_op {ops : Array Oper} {rest : List Oper} {o : Oper} {a : Act} {w : World} {v : Value} {Q : Exit → Act → World → Prop} (hgd : o.guard = none) (hy : (execOp a.eval o).run Try.prog w = .ok (.value v) w)
    (h : wpList Try.prog ops Q rest (a.put o.dst v) w) : wpList Try.prog ops Q (o :: rest) a w :=
  wpList_plain hgd fun K hK => op_yield hy (hK _ _ h)
theorem key_ones (k : Key) : ∀ v ∈ k.L, v.oneCell' = true := fun v hv => by
  obtain ⟨b, _, rfl⟩ := List.mem_map.1 hv
  rfl
theorem ent_ones (e : Ent) : ∀ v ∈ e.L, v.oneCell' = true := fun v hv => by
  unfold Ent.L at hv
  simp at hv
  rcases hv with rfl | rfl | rfl | rfl <;> rfl
theorem slot_ones (s : Sl) : ∀ v ∈ slotL s, v.oneCell' = true := fun v hv => by
  rcases List.mem_cons.1 hv with rfl | hv
  · rfl
  · rcases List.mem_append.1 hv with hv | hv
    · exact key_ones _ v hv
    · exact ent_ones _ v hv
end Go.Proofs.Ytknbehjhaaidoaa.TB

