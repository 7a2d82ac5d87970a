/- walked on no vault: a range over a function that yields once (printed by dirnil2.py). -/
import Derived.RangeFuncNested
import Derived.RangeFuncBound
import Derived.RangeFuncCalls
import Derived.RangeFuncLeaves
import Derived.Shelf.Abstract
import Derived.Shelf.RegionOpen
import Derived.WalkKit
import Derived.OwnWalkIn
import Derived.TacticsInMore
import Derived.LoopNIn
import Derived.LoopIn
import Derived.Laws.StructEq
import Derived.Stop.BytesEq
import Derived.Test.YtaflodfngcgmbaaGreatDoorDnA
namespace Go.Proofs.YtaflodfngcgmbaaGreatDoor.DN
open Go.RowKit Go.Shelf Mem
set_option linter.unusedVariables false
set_option linter.unusedSimpArgs false
attribute [local go_sem] Oper.semAt_some

theorem wpListIn_store_mid {F : Fence} {n : Nat} {P : Program} {ops : Array Oper} {rest : List Oper} {op : Oper} {a : Act} {w : World} {Q : Exit → Act → World → Prop} (hgd : op.guard = none) (ty : TypeId) (x y : Operand) (ho : op.op = .store ty x y)
    (b o : Nat) (cells : Array Value) (hx : a.eval x = .pointer (some ⟨b, o, none⟩)) (hy : a.eval y = .agg cells)
    (ht : w.there b o cells.size) (hi : (P.info? ty).map (·.size) = some cells.size) (h1 : cells.all (·.oneCell') = true)
    (h : wpListIn F n P ops Q rest (a.put op.dst undef) (w.setCells b o cells.toList)) : wpListIn F n P ops Q (op :: rest) a w :=
  wpListIn_plain hgd fun _ hK => by
    unfold Oper.wpIn
    refine ⟨by simp [Oper.about, ho], ?_⟩
    rw [Oper.semAt_plain F _ _ (by rw [ho]; intro c hc'; cases hc')]
    unfold execOp
    simp only [ho, hx, hy, Instr.storeAt, Instr.sureAddr, Sem.run_bind, Sem.run_pure, Result.andThen_ok, run_storeVar_mid w b o ty cells ht hi h1]
    exact hK _ _ h
theorem wpListIn_load_mid {F : Fence} {n : Nat} {P : Program} {ops : Array Oper} {rest : List Oper} {op : Oper} {a : Act} {w : World} {Q : Exit → Act → World → Prop} (hgd : Region.wanted op (yielded ops a.tmps) = true) (ty : TypeId) (x : Operand) (ho : op.op = .load ty x)
    (b o : Nat) (hx : a.eval x = .pointer (some ⟨b, o, none⟩)) (cs : List Value) (d : TypeDesc) (hc : w.rangeAt b o cs)
    (hu : P.underlying ty = some d) (hd : d.isRow = true) (hi : (P.info? ty).map (·.size) = some cs.length)
    (h : wpListIn F n P ops Q rest (a.put op.dst (.agg cs.toArray)) w) : wpListIn F n P ops Q (op :: rest) a w :=
  wpListIn_step fun _ hK => by
    rw [if_pos hgd]
    unfold Oper.wpIn
    refine ⟨by simp [Oper.about, ho], ?_⟩
    rw [Oper.semAt_plain F _ _ (by rw [ho]; intro c hc'; cases hc')]
    unfold execOp
    simp only [ho, hx, Instr.loadAt, Instr.sureAddr, Sem.run_bind, Sem.run_pure, Result.andThen_ok, run_loadVar_mid w b o ty cs d hc hu hd hi]
    exact hK _ _ h
theorem blk_own {β : Type} (B : Nat) (t : TypeId) (C : Array Value) : Own (fun (_ : β) W => Blk W B t C) := fun s X Y row hs hg hrow =>
  (hg.block B (Blk.lt hs) (fun e' => by obtain ⟨o, ho, hc⟩ := hrow B e'.symm; rw [show X.heap[B]? = _ from hs] at ho; cases ho; cases hc)).trans hs
theorem walked_info : (Tryz.prog.info? 57).map (·.size) = some 36 := by kernel_rfl
def zW : Array Value := #[.string ⟨#[]⟩, .string ⟨#[]⟩, .int .u8 0, .int .u64 0, .int .u8 0, .int .u8 0, .int .u8 0, .int .u8 0, .int .u8 0, .int .u8 0, .int .u8 0, .int .u8 0, .int .u8 0, .int .u8 0, .int .u8 0, .int .u8 0, .int .u8 0, .int .u8 0, .int .u8 0, .int .u8 0, .int .u8 0, .int .u8 0, .int .u8 0, .int .u8 0, .int .u8 0, .int .u8 0, .int .u8 0, .int .u8 0, .int .u8 0, .int .u8 0, .int .u8 0, .int .u8 0, .int .u8 0, .int .u8 0, .int .u8 0, .int .u8 0]
theorem zW_one : zW.all (·.oneCell') = true := by decide +kernel
theorem walk_n (F : Fence) (n : Nat) (h17 : F.fn 17) (hro : F.round = none) (s : Int) (k : List Value) (w : World) :
    CallsIn F n Tryz.prog 17 #[.pointer none, .int .i64 s, .agg k.toArray] w fun e w' => e = .returned (.func (.func 27) #[] #[.pointer (some ⟨w.heap.size, 0, none⟩), .pointer (some ⟨w.heap.size + 1, 0, none⟩), .pointer (some ⟨w.heap.size + 1 + 1, 0, none⟩)]) ∧
      w' = ((w.alloc (.cells #[.pointer none] 42)).alloc (.cells #[.int .i64 s] 3)).alloc (.cells k.toArray 25) := by
  refine callsIn_of_wp Tryz.func17 rfl h17 ?_ hro
  simp only [Tryz.ntmps17, List.size_toArray, List.length_cons, List.length_nil, Nat.reduceAdd, Nat.reduceSub, Array.replicate_succ, Array.replicate_zero, List.push_toArray, List.append_toArray, List.nil_append, List.cons_append]
  gi_wp2
  go_ret
  exact ⟨rfl, rfl⟩
set_option maxRecDepth 100000 in
set_option maxHeartbeats 1000000 in
theorem stops_n (F : Fence) (n : Nat) (h27 : F.fn 27) (hro : F.round = none) (hn : 1 ≤ n) (B n₀ : Nat) (w : World) (p1 p2 : Value) (hB : B < w.heap.size) (hc : w.cell? ⟨B, 0, none⟩ = some (.pointer none)) :
    SeqStopsK F n Tryz.prog 27 #[.pointer (some ⟨B, 0, none⟩), p1, p2] (fun _ : Unit => #[.agg #[.string ⟨#[]⟩, .string ⟨#[]⟩, .int .u8 0, .int .u64 0, .int .u8 0, .int .u8 0, .int .u8 0, .int .u8 0, .int .u8 0, .int .u8 0, .int .u8 0, .int .u8 0, .int .u8 0, .int .u8 0, .int .u8 0, .int .u8 0, .int .u8 0, .int .u8 0, .int .u8 0, .int .u8 0, .int .u8 0, .int .u8 0, .int .u8 0, .int .u8 0, .int .u8 0, .int .u8 0, .int .u8 0, .int .u8 0, .int .u8 0, .int .u8 0, .int .u8 0, .int .u8 0, .int .u8 0, .int .u8 0, .int .u8 0, .int .u8 0], .int .i64 1]) (Below n₀) (fun ys => ys = [()]) (fun pre => pre = [()]) 1 w := fun l J Jx W hW _ _ hY h0 => by
  have hcW : W.cell? ⟨B, 0, none⟩ = some (.pointer none) := (hW.cell (p := ⟨B, 0, none⟩) hB).trans hc
  refine callsIn_of_wp Tryz.func27 rfl h27 ?_ hro
  simp only [Tryz.ntmps27, List.size_toArray, List.length_cons, List.length_nil, Nat.reduceAdd, Nat.reduceSub, Array.replicate_succ, Array.replicate_zero, List.push_toArray, List.append_toArray, List.nil_append, List.cons_append]
  obtain ⟨f1, t1, a1, b1, hy1, hR1⟩ := hY [] () W h0 (by simp)
  gi_wp2
  refine hR1.mono ?_
  rintro e W1 (⟨rfl, hJ1, _⟩ | ⟨rfl, hx1⟩)
  · gi_wp2
    refine bodyPost_ret (results_none rfl _ _ _) rfl ?_
    exact ⟨⟨_, rfl⟩, .inl ⟨_, rfl, hJ1⟩⟩
  · gi_wp2
    refine bodyPost_ret (results_none rfl _ _ _) rfl ?_
    exact ⟨⟨_, rfl⟩, .inr ⟨_, rfl, hx1⟩⟩
theorem run_equalIn_func_nil {P : Program} (w : World) (d : Nat) (t : TypeId) (ps rs : Array TypeId) (v : Bool) (f : Fn) (x y : Array Value) (h : P.underlying t = some (.func ps rs v)) :
    (Op.equalIn (d + 1) t (.func f x y) .nilFunc).run P w = .ok false w := by
  simp [Op.equalIn, run_underlying h]
theorem run_eql_func_nil {P : Program} (w : World) (t : TypeId) (ps rs : Array TypeId) (v : Bool) (f : Fn) (x y : Array Value) (h : P.underlying t = some (.func ps rs v)) :
    (binOp .eql t (.func f x y) .nilFunc).run P w = .ok (.bool false) w := by
  simp only [binOp]
  simp [Op.equal, Op.maxDepth, run_equalIn_func_nil w 9999 t ps rs v f x y h]
theorem setCell_same {w : World} {b i : Nat} {t : TypeId} {Z : Array Value} {v : Value} (h : Blk w b t Z) (hv : Z[i]? = some v) : w.setCell ⟨b, i, none⟩ v = w := by
  have hz : Z.setIfInBounds i v = Z := by
    apply Array.ext_getElem?
    intro j
    rw [Array.getElem?_setIfInBounds]
    split
    · rename_i e; subst e
      have := (Array.getElem?_eq_some_iff.1 hv).1
      rw [if_pos this, hv]
    · rfl
  have e : (w.heap.modify b fun
      | .cells c elem frozen => .cells (if (none : Option Nat).isSome then c else c.setIfInBounds i v) elem frozen
      | o => o) = w.heap := by
    apply Array.ext_getElem?
    intro j
    rw [Array.getElem?_modify]
    split
    · rename_i e; subst e
      rw [show w.heap[b]? = _ from h]
      simp [hz]
    · rfl
  unfold World.setCell
  show { w with heap := _ } = w
  have e' := e
  cases w
  simp at e' ⊢
  exact e'
theorem setCells_same {w : World} {b : Nat} {t : TypeId} {Z : Array Value} (h : Blk w b t Z) : ∀ (vs : List Value) (o : Nat), (∀ j v, vs[j]? = some v → Z[o + j]? = some v) → w.setCells b o vs = w
  | [], _, _ => rfl
  | v :: vs, o, hv => by
    show (w.setCell ⟨b, o, none⟩ v).setCells b (o + 1) vs = w
    rw [setCell_same h (by have := hv 0 v rfl; simpa using this)]
    exact setCells_same h vs (o + 1) fun j u hu => by have := hv (j + 1) u (by simpa using hu); rw [show o + 1 + j = o + (j + 1) by omega]; exact this
theorem zeroed_z (W : World) : (W.alloc (.cells zW 57)).setCells W.heap.size 0 zW.toList = W.alloc (.cells zW 57) :=
  setCells_same (Blk.new W 57 zW) zW.toList 0 fun j v hv => by rw [Nat.zero_add, ← Array.getElem?_toList]; exact hv
theorem zeroed_same (W : World) : (W.alloc (.cells #[.string ⟨#[]⟩, .string ⟨#[]⟩, .int .u8 0, .int .u64 0, .int .u8 0, .int .u8 0, .int .u8 0, .int .u8 0, .int .u8 0, .int .u8 0, .int .u8 0, .int .u8 0, .int .u8 0, .int .u8 0, .int .u8 0, .int .u8 0, .int .u8 0, .int .u8 0, .int .u8 0, .int .u8 0, .int .u8 0, .int .u8 0, .int .u8 0, .int .u8 0, .int .u8 0, .int .u8 0, .int .u8 0, .int .u8 0, .int .u8 0, .int .u8 0, .int .u8 0, .int .u8 0, .int .u8 0, .int .u8 0, .int .u8 0, .int .u8 0] 57)).setCells W.heap.size 0 zW.toList = W.alloc (.cells #[.string ⟨#[]⟩, .string ⟨#[]⟩, .int .u8 0, .int .u64 0, .int .u8 0, .int .u8 0, .int .u8 0, .int .u8 0, .int .u8 0, .int .u8 0, .int .u8 0, .int .u8 0, .int .u8 0, .int .u8 0, .int .u8 0, .int .u8 0, .int .u8 0, .int .u8 0, .int .u8 0, .int .u8 0, .int .u8 0, .int .u8 0, .int .u8 0, .int .u8 0, .int .u8 0, .int .u8 0, .int .u8 0, .int .u8 0, .int .u8 0, .int .u8 0, .int .u8 0, .int .u8 0, .int .u8 0, .int .u8 0, .int .u8 0, .int .u8 0] 57) := zeroed_z W
theorem walked_eq (W : World) : (binOp .eql 57 (.agg #[.string ⟨#[]⟩, .string ⟨#[]⟩, .int .u8 0, .int .u64 0, .int .u8 0, .int .u8 0, .int .u8 0, .int .u8 0, .int .u8 0, .int .u8 0, .int .u8 0, .int .u8 0, .int .u8 0, .int .u8 0, .int .u8 0, .int .u8 0, .int .u8 0, .int .u8 0, .int .u8 0, .int .u8 0, .int .u8 0, .int .u8 0, .int .u8 0, .int .u8 0, .int .u8 0, .int .u8 0, .int .u8 0, .int .u8 0, .int .u8 0, .int .u8 0, .int .u8 0, .int .u8 0, .int .u8 0, .int .u8 0, .int .u8 0, .int .u8 0]) (.agg #[.string ⟨#[]⟩, .string ⟨#[]⟩, .int .u8 0, .int .u64 0, .int .u8 0, .int .u8 0, .int .u8 0, .int .u8 0, .int .u8 0, .int .u8 0, .int .u8 0, .int .u8 0, .int .u8 0, .int .u8 0, .int .u8 0, .int .u8 0, .int .u8 0, .int .u8 0, .int .u8 0, .int .u8 0, .int .u8 0, .int .u8 0, .int .u8 0, .int .u8 0, .int .u8 0, .int .u8 0, .int .u8 0, .int .u8 0, .int .u8 0, .int .u8 0, .int .u8 0, .int .u8 0, .int .u8 0, .int .u8 0, .int .u8 0, .int .u8 0])).run Tryz.prog W = .ok (.bool true) W := by kernel_rfl
theorem walked_guard (W : World) : (eqGuard .eql 57 (.tmp 37) (.tmp 38) (.agg #[.string ⟨#[]⟩, .string ⟨#[]⟩, .int .u8 0, .int .u64 0, .int .u8 0, .int .u8 0, .int .u8 0, .int .u8 0, .int .u8 0, .int .u8 0, .int .u8 0, .int .u8 0, .int .u8 0, .int .u8 0, .int .u8 0, .int .u8 0, .int .u8 0, .int .u8 0, .int .u8 0, .int .u8 0, .int .u8 0, .int .u8 0, .int .u8 0, .int .u8 0, .int .u8 0, .int .u8 0, .int .u8 0, .int .u8 0, .int .u8 0, .int .u8 0, .int .u8 0, .int .u8 0, .int .u8 0, .int .u8 0, .int .u8 0, .int .u8 0]) (.agg #[.string ⟨#[]⟩, .string ⟨#[]⟩, .int .u8 0, .int .u64 0, .int .u8 0, .int .u8 0, .int .u8 0, .int .u8 0, .int .u8 0, .int .u8 0, .int .u8 0, .int .u8 0, .int .u8 0, .int .u8 0, .int .u8 0, .int .u8 0, .int .u8 0, .int .u8 0, .int .u8 0, .int .u8 0, .int .u8 0, .int .u8 0, .int .u8 0, .int .u8 0, .int .u8 0, .int .u8 0, .int .u8 0, .int .u8 0, .int .u8 0, .int .u8 0, .int .u8 0, .int .u8 0, .int .u8 0, .int .u8 0, .int .u8 0, .int .u8 0])).run Tryz.prog W = .ok () W := by kernel_rfl
theorem wpListIn_bin {F : Fence} {n : Nat} {P : Program} {ops : Array Oper} {rest : List Oper} {op : Oper} {a : Act} {w : World} {Q : Exit → Act → World → Prop} (hgd : Region.wanted op (yielded ops a.tmps) = true) (t u : TypeId) (x y : Operand) (ho : op.op = .binOp .eql t x y u)
    (vx vy v : Value) (hx : a.eval x = vx) (hy : a.eval y = vy) (hg : (eqGuard .eql t x y vx vy).run P w = .ok () w) (hr : (binOp .eql t vx vy).run P w = .ok v w)
    (h : wpListIn F n P ops Q rest (a.put op.dst v) w) : wpListIn F n P ops Q (op :: rest) a w :=
  wpListIn_step fun _ hK => by
    rw [if_pos hgd]
    unfold Oper.wpIn
    refine ⟨by simp [Oper.about, ho], ?_⟩
    rw [Oper.semAt_plain F _ _ (by rw [ho]; intro c hc'; cases hc')]
    unfold execOp
    simp only [ho, hx, hy, Sem.run_bind, Sem.run_pure, Result.andThen_ok, hg, hr]
    exact hK _ _ h
theorem walked_res (a b c : Value) (tmps : Array Value) (w : World) (h1 : tmps.getD 8 undef = a) (h2 : tmps.getD 9 undef = b) (h3 : tmps.getD 10 undef = c) : (results Tryz.f9 tmps).run Tryz.prog w = .ok (.tuple #[a, b, c]) w := by
  subst h1 h2 h3
  simp [results, Tryz.results9, go_sem]
set_option maxRecDepth 100000 in
set_option maxHeartbeats 2000000 in
theorem walked_n (F : Fence) (n : Nat) (h9 : F.fn 9) (h17 : F.fn 17) (h27 : F.fn 27) (hro : F.round = none) (hn : 4 ≤ n) (k : List Value) (hk : k.length = 32) (w : World) :
    CallsIn F n Tryz.prog 9 #[.pointer none, .int .i64 1, .agg k.toArray, .int .i64 9] w fun e w' => e = .returned (.tuple #[.slice none 0 0, .int .i64 1, .bool true]) ∧ Below w.heap.size w w' := by
  have h1 : 1 ≤ n := by omega
  have HR := Lib.hid (show ((((((w.alloc (.cells k.toArray 25)).alloc (.cells #[.int .i64 9] 3)).alloc (.cells #[.slice none 0 0] 38)).alloc (.cells #[.int .i64 0] 28)).alloc (.cells #[.bool true] 4))).rangeAt w.heap.size 0 k from World.rangeAt_alloc (World.rangeAt_alloc (World.rangeAt_alloc (World.rangeAt_alloc (range_of (Blk.new w 25 k.toArray)) _) _) _) _)
  have HK := Lib.hid hk
  clear hk
  refine callsIn_of_wp_marks Tryz.func9 rfl h9 ?_ hro
  simp only [Tryz.ntmps9, List.size_toArray, List.length_cons, List.length_nil, Nat.reduceAdd, Nat.reduceSub, Array.replicate_succ, Array.replicate_zero, List.push_toArray, List.append_toArray, List.nil_append, List.cons_append]
  have hnf := fun (w' : World) (f : Fn) (x y : Array Value) => run_eql_func_nil (P := Tryz.prog) w' 54 _ _ _ f x y Tryz.underlying54
  gi_wp2_with (first
    | (gi_at_call 17; refine (walk_n F (n - 1) h17 hro 1 k _).mono ?_; rintro e w' ⟨rfl, rfl⟩)
    | (refine wpListIn_load_mid rfl 25 (.tmp 6) rfl w.heap.size 0 rfl k _ (by exact HR.out) Tryz.underlying25 rfl (by rw [HK.out]; exact key_info) ?_))
  have bO : Boxed ((((((((w.alloc (.cells k.toArray 25)).alloc (.cells #[.int .i64 9] 3)).alloc (.cells #[.slice none 0 0] 38)).alloc (.cells #[.int .i64 0] 28)).alloc (.cells #[.bool true] 4)).alloc (.cells #[.pointer none] 42)).alloc (.cells #[.int .i64 1] 3)).alloc (.cells k.toArray 25)) (w.heap.size + 1 + 1) 38 (.slice none 0 0) := by have := ((((((Boxed.new ((w.alloc (.cells k.toArray 25)).alloc (.cells #[.int .i64 9] 3)) 38 (.slice none 0 0)).alloc (.cells #[.int .i64 0] 28)).alloc (.cells #[.bool true] 4)).alloc (.cells #[.pointer none] 42)).alloc (.cells #[.int .i64 1] 3)).alloc (.cells k.toArray 25)); simpa using this
  have bL : Boxed ((((((((w.alloc (.cells k.toArray 25)).alloc (.cells #[.int .i64 9] 3)).alloc (.cells #[.slice none 0 0] 38)).alloc (.cells #[.int .i64 0] 28)).alloc (.cells #[.bool true] 4)).alloc (.cells #[.pointer none] 42)).alloc (.cells #[.int .i64 1] 3)).alloc (.cells k.toArray 25)) (w.heap.size + 1 + 1 + 1) 28 (.int .i64 0) := by have := (((((Boxed.new (((w.alloc (.cells k.toArray 25)).alloc (.cells #[.int .i64 9] 3)).alloc (.cells #[.slice none 0 0] 38)) 28 (.int .i64 0)).alloc (.cells #[.bool true] 4)).alloc (.cells #[.pointer none] 42)).alloc (.cells #[.int .i64 1] 3)).alloc (.cells k.toArray 25)); simpa using this
  have bF : Boxed ((((((((w.alloc (.cells k.toArray 25)).alloc (.cells #[.int .i64 9] 3)).alloc (.cells #[.slice none 0 0] 38)).alloc (.cells #[.int .i64 0] 28)).alloc (.cells #[.bool true] 4)).alloc (.cells #[.pointer none] 42)).alloc (.cells #[.int .i64 1] 3)).alloc (.cells k.toArray 25)) (w.heap.size + 1 + 1 + 1 + 1) 4 (.bool true) := by have := ((((Boxed.new ((((w.alloc (.cells k.toArray 25)).alloc (.cells #[.int .i64 9] 3)).alloc (.cells #[.slice none 0 0] 38)).alloc (.cells #[.int .i64 0] 28)) 4 (.bool true)).alloc (.cells #[.pointer none] 42)).alloc (.cells #[.int .i64 1] 3)).alloc (.cells k.toArray 25)); simpa using this
  have bV : Boxed ((((((((w.alloc (.cells k.toArray 25)).alloc (.cells #[.int .i64 9] 3)).alloc (.cells #[.slice none 0 0] 38)).alloc (.cells #[.int .i64 0] 28)).alloc (.cells #[.bool true] 4)).alloc (.cells #[.pointer none] 42)).alloc (.cells #[.int .i64 1] 3)).alloc (.cells k.toArray 25)) (w.heap.size + 1 + 1 + 1 + 1 + 1) 42 (.pointer none) := by have := (((Boxed.new (((((w.alloc (.cells k.toArray 25)).alloc (.cells #[.int .i64 9] 3)).alloc (.cells #[.slice none 0 0] 38)).alloc (.cells #[.int .i64 0] 28)).alloc (.cells #[.bool true] 4)) 42 (.pointer none)).alloc (.cells #[.int .i64 1] 3)).alloc (.cells k.toArray 25)); simpa using this
  have hB0 : Below w.heap.size w ((((((((w.alloc (.cells k.toArray 25)).alloc (.cells #[.int .i64 9] 3)).alloc (.cells #[.slice none 0 0] 38)).alloc (.cells #[.int .i64 0] 28)).alloc (.cells #[.bool true] 4)).alloc (.cells #[.pointer none] 42)).alloc (.cells #[.int .i64 1] 3)).alloc (.cells k.toArray 25)) := (((((((((Below.refl w.heap.size w).alloc (by first | exact Nat.le_refl _ | (simp; done) | (simp; omega)) (.cells k.toArray 25)).alloc (by first | exact Nat.le_refl _ | (simp; done) | (simp; omega)) (.cells #[.int .i64 9] 3)).alloc (by first | exact Nat.le_refl _ | (simp; done) | (simp; omega)) (.cells #[.slice none 0 0] 38)).alloc (by first | exact Nat.le_refl _ | (simp; done) | (simp; omega)) (.cells #[.int .i64 0] 28)).alloc (by first | exact Nat.le_refl _ | (simp; done) | (simp; omega)) (.cells #[.bool true] 4)).alloc (by first | exact Nat.le_refl _ | (simp; done) | (simp; omega)) (.cells #[.pointer none] 42)).alloc (by first | exact Nat.le_refl _ | (simp; done) | (simp; omega)) (.cells #[.int .i64 1] 3)).alloc (by first | exact Nat.le_refl _ | (simp; done) | (simp; omega)) (.cells k.toArray 25))
  have hsz : ((((((((w.alloc (.cells k.toArray 25)).alloc (.cells #[.int .i64 9] 3)).alloc (.cells #[.slice none 0 0] 38)).alloc (.cells #[.int .i64 0] 28)).alloc (.cells #[.bool true] 4)).alloc (.cells #[.pointer none] 42)).alloc (.cells #[.int .i64 1] 3)).alloc (.cells k.toArray 25)).heap.size = w.heap.size + 8 := by simp
  obtain ⟨W0, hW0⟩ : ∃ W0, ((((((((w.alloc (.cells k.toArray 25)).alloc (.cells #[.int .i64 9] 3)).alloc (.cells #[.slice none 0 0] 38)).alloc (.cells #[.int .i64 0] 28)).alloc (.cells #[.bool true] 4)).alloc (.cells #[.pointer none] 42)).alloc (.cells #[.int .i64 1] 3)).alloc (.cells k.toArray 25)) = W0 := ⟨_, rfl⟩
  rw [hW0] at bO bL bF bV hB0 hsz ⊢
  clear hW0 HR HK hnf
  refine wpIn_rangeFunc_ownH hro h1 (gf := 27) (lb := #[.pointer (some ⟨w.heap.size + 1 + 1 + 1 + 1 + 1, 0, none⟩), .pointer (some ⟨w.heap.size + 1 + 1 + 1 + 1 + 1 + 1, 0, none⟩), .pointer (some ⟨w.heap.size + 1 + 1 + 1 + 1 + 1 + 1 + 1, 0, none⟩)]) rfl h27 (enters_of Tryz.func27 (by kernel_rfl) rfl)
    (stops_n F (n - 1) h27 hro (by omega) (w.heap.size + 1 + 1 + 1 + 1 + 1) w.heap.size W0 _ _ (by omega) bV.cell) belowK_t (belowK_b (by omega)) (Below.refl _ _) (fun _ => rfl)
    (fun pre W => ((Boxed W (w.heap.size + 1 + 1) 38 (.slice none 0 0) ∧ Boxed W (w.heap.size + 1 + 1 + 1) 28 (.int .i64 (if pre = [] then 0 else 1))) ∧ Boxed W (w.heap.size + 1 + 1 + 1 + 1) 4 (.bool true)) ∧ Below w.heap.size w W)
    (fun _ _ _ => False)
    (OwnFrom.and (OwnFrom.and (OwnFrom.and (Own.from (boxed_own _ _ _) _) (Own.from (boxed_own _ _ (fun pre : List Unit => Value.int .i64 (if pre = [] then 0 else 1))) _)) (Own.from (boxed_own _ _ _) _)) (ownFrom_below (Nat.le_refl _) (by omega)))
    (fun _ _ _ _ _ hs _ _ => hs)
    ⟨⟨⟨bO, bL⟩, bF⟩, hB0⟩
    (fun x a' W => ∃ Bx, w.heap.size + 1 + 1 + 1 + 1 < Bx ∧ Blk W Bx 57 #[.string ⟨#[]⟩, .string ⟨#[]⟩, .int .u8 0, .int .u64 0, .int .u8 0, .int .u8 0, .int .u8 0, .int .u8 0, .int .u8 0, .int .u8 0, .int .u8 0, .int .u8 0, .int .u8 0, .int .u8 0, .int .u8 0, .int .u8 0, .int .u8 0, .int .u8 0, .int .u8 0, .int .u8 0, .int .u8 0, .int .u8 0, .int .u8 0, .int .u8 0, .int .u8 0, .int .u8 0, .int .u8 0, .int .u8 0, .int .u8 0, .int .u8 0, .int .u8 0, .int .u8 0, .int .u8 0, .int .u8 0, .int .u8 0, .int .u8 0] ∧ a' = { tmps := #[.pointer none, .int .i64 1, .agg k.toArray, .int .i64 9, undef, undef, .pointer (some ⟨w.heap.size, 0, none⟩), .pointer (some ⟨w.heap.size + 1, 0, none⟩), .slice none 0 0, .int .i64 0, .bool false, .pointer (some ⟨w.heap.size + 1 + 1, 0, none⟩), .pointer (some ⟨w.heap.size + 1 + 1 + 1, 0, none⟩), .pointer (some ⟨w.heap.size + 1 + 1 + 1 + 1, 0, none⟩), .func (.func 27) #[] #[.pointer (some ⟨w.heap.size + 1 + 1 + 1 + 1 + 1, 0, none⟩), .pointer (some ⟨w.heap.size + 1 + 1 + 1 + 1 + 1 + 1, 0, none⟩), .pointer (some ⟨w.heap.size + 1 + 1 + 1 + 1 + 1 + 1 + 1, 0, none⟩)], .pointer (some ⟨Bx, 0, none⟩), .int .i64 1, .int .i64 9, .bool false, undef, .pointer none, .int .i64 1, .agg k.toArray, .func (.func 27) #[] #[.pointer (some ⟨w.heap.size + 1 + 1 + 1 + 1 + 1, 0, none⟩), .pointer (some ⟨w.heap.size + 1 + 1 + 1 + 1 + 1 + 1, 0, none⟩), .pointer (some ⟨w.heap.size + 1 + 1 + 1 + 1 + 1 + 1 + 1, 0, none⟩)], .func (.func 27) #[] #[.pointer (some ⟨w.heap.size + 1 + 1 + 1 + 1 + 1, 0, none⟩), .pointer (some ⟨w.heap.size + 1 + 1 + 1 + 1 + 1 + 1, 0, none⟩), .pointer (some ⟨w.heap.size + 1 + 1 + 1 + 1 + 1 + 1 + 1, 0, none⟩)], .bool false, undef, .func (.func 27) #[] #[.pointer (some ⟨w.heap.size + 1 + 1 + 1 + 1 + 1, 0, none⟩), .pointer (some ⟨w.heap.size + 1 + 1 + 1 + 1 + 1 + 1, 0, none⟩), .pointer (some ⟨w.heap.size + 1 + 1 + 1 + 1 + 1 + 1 + 1, 0, none⟩)], .agg #[.string ⟨#[]⟩, .string ⟨#[]⟩, .int .u8 0, .int .u64 0, .int .u8 0, .int .u8 0, .int .u8 0, .int .u8 0, .int .u8 0, .int .u8 0, .int .u8 0, .int .u8 0, .int .u8 0, .int .u8 0, .int .u8 0, .int .u8 0, .int .u8 0, .int .u8 0, .int .u8 0, .int .u8 0, .int .u8 0, .int .u8 0, .int .u8 0, .int .u8 0, .int .u8 0, .int .u8 0, .int .u8 0, .int .u8 0, .int .u8 0, .int .u8 0, .int .u8 0, .int .u8 0, .int .u8 0, .int .u8 0, .int .u8 0, .int .u8 0], .int .i64 1, undef, undef, undef, undef, undef, undef, undef, undef, undef, undef, undef, undef, undef, undef, undef, undef, undef, undef, undef, undef, undef, undef], defers := [] })
    (fun x a' _ X Y row hs hg hr => by obtain ⟨Bx, h1, h2, h3⟩ := hs; exact ⟨Bx, h1, blk_own (β := Unit) Bx 57 #[.string ⟨#[]⟩, .string ⟨#[]⟩, .int .u8 0, .int .u64 0, .int .u8 0, .int .u8 0, .int .u8 0, .int .u8 0, .int .u8 0, .int .u8 0, .int .u8 0, .int .u8 0, .int .u8 0, .int .u8 0, .int .u8 0, .int .u8 0, .int .u8 0, .int .u8 0, .int .u8 0, .int .u8 0, .int .u8 0, .int .u8 0, .int .u8 0, .int .u8 0, .int .u8 0, .int .u8 0, .int .u8 0, .int .u8 0, .int .u8 0, .int .u8 0, .int .u8 0, .int .u8 0, .int .u8 0, .int .u8 0, .int .u8 0, .int .u8 0] () X Y row h2 hg (fun r e => (hr r e).2), h3⟩)
    ?assign ?body ?done ?stop
  case assign =>
    rintro l pre x W K ⟨⟨⟨bO1, bL1⟩, bF1⟩, hB1⟩ hK
    have hst := store_new (w0 := W) (C := zW) (Blk.new W 57 #[.string ⟨#[]⟩, .string ⟨#[]⟩, .int .u8 0, .int .u64 0, .int .u8 0, .int .u8 0, .int .u8 0, .int .u8 0, .int .u8 0, .int .u8 0, .int .u8 0, .int .u8 0, .int .u8 0, .int .u8 0, .int .u8 0, .int .u8 0, .int .u8 0, .int .u8 0, .int .u8 0, .int .u8 0, .int .u8 0, .int .u8 0, .int .u8 0, .int .u8 0, .int .u8 0, .int .u8 0, .int .u8 0, .int .u8 0, .int .u8 0, .int .u8 0, .int .u8 0, .int .u8 0, .int .u8 0, .int .u8 0, .int .u8 0, .int .u8 0]) rfl ((Mod.refl no W).alloc _) (Nat.le_refl _)
    have HT := Lib.hid hst.1
    clear hst
    gi_wp2_with (first | (refine wpListIn_store_mid rfl 57 (.tmp 15) (.tmp 28) rfl W.heap.size 0 zW rfl rfl (by exact HT.out) walked_info zW_one ?_; rw [zeroed_same]))
    exact hK _ _ ((KeepsOthers.alloc _ _).from _) ((Below.refl _ W).alloc hB1.size _) ⟨⟨⟨bO1.alloc _, bL1.alloc _⟩, bF1.alloc _⟩, hB1.alloc hB1.size _⟩ ⟨W.heap.size, bF1.lt, Blk.new W _ _, rfl⟩
  case body =>
    rintro l pre x a' W hl ⟨r, hr⟩ ⟨⟨⟨bO1, bL1⟩, bF1⟩, hB1⟩ ⟨Bx, hBx, bX, rfl⟩ hlt
    obtain rfl : pre = [] := List.eq_nil_of_length_eq_zero (by omega)
    rw [if_pos rfl] at bL1
    have cL := bL1.cell
    have fL := bL1.frozen
    have cF := bF1.cell
    have fF := bF1.frozen
    have HX := Lib.hid (range_of (bX.far (p := ⟨w.heap.size + 1 + 1 + 1, 0, none⟩) (show Bx ≠ w.heap.size + 1 + 1 + 1 by omega) (.int .i64 1)))
    gi_wp2_with (first | (refine wpListIn_bin rfl 57 57 (.tmp 37) (.tmp 38) rfl (.agg #[.string ⟨#[]⟩, .string ⟨#[]⟩, .int .u8 0, .int .u64 0, .int .u8 0, .int .u8 0, .int .u8 0, .int .u8 0, .int .u8 0, .int .u8 0, .int .u8 0, .int .u8 0, .int .u8 0, .int .u8 0, .int .u8 0, .int .u8 0, .int .u8 0, .int .u8 0, .int .u8 0, .int .u8 0, .int .u8 0, .int .u8 0, .int .u8 0, .int .u8 0, .int .u8 0, .int .u8 0, .int .u8 0, .int .u8 0, .int .u8 0, .int .u8 0, .int .u8 0, .int .u8 0, .int .u8 0, .int .u8 0, .int .u8 0, .int .u8 0]) (.agg #[.string ⟨#[]⟩, .string ⟨#[]⟩, .int .u8 0, .int .u64 0, .int .u8 0, .int .u8 0, .int .u8 0, .int .u8 0, .int .u8 0, .int .u8 0, .int .u8 0, .int .u8 0, .int .u8 0, .int .u8 0, .int .u8 0, .int .u8 0, .int .u8 0, .int .u8 0, .int .u8 0, .int .u8 0, .int .u8 0, .int .u8 0, .int .u8 0, .int .u8 0, .int .u8 0, .int .u8 0, .int .u8 0, .int .u8 0, .int .u8 0, .int .u8 0, .int .u8 0, .int .u8 0, .int .u8 0, .int .u8 0, .int .u8 0, .int .u8 0]) (.bool true) (by rfl) (by rfl) (by exact walked_guard _) (by exact walked_eq _) ?_) | (refine wpListIn_load_mid rfl 57 (.tmp 15) rfl Bx 0 rfl [.string ⟨#[]⟩, .string ⟨#[]⟩, .int .u8 0, .int .u64 0, .int .u8 0, .int .u8 0, .int .u8 0, .int .u8 0, .int .u8 0, .int .u8 0, .int .u8 0, .int .u8 0, .int .u8 0, .int .u8 0, .int .u8 0, .int .u8 0, .int .u8 0, .int .u8 0, .int .u8 0, .int .u8 0, .int .u8 0, .int .u8 0, .int .u8 0, .int .u8 0, .int .u8 0, .int .u8 0, .int .u8 0, .int .u8 0, .int .u8 0, .int .u8 0, .int .u8 0, .int .u8 0, .int .u8 0, .int .u8 0, .int .u8 0, .int .u8 0] _ (by exact HX.out) Tryz.underlying57 rfl walked_info ?_))
    refine ⟨((KeepsOthers.setCell _ _ _).from _).trans ((KeepsOthers.setCell _ _ _).from _), ((Below.refl w.heap.size W).setCell (p := ⟨w.heap.size + 1 + 1 + 1, 0, none⟩) (by simp; try omega) _).setCell (p := ⟨w.heap.size + 1 + 1 + 1 + 1, 0, none⟩) (by simp; try omega) _, ⟨⟨(bO1.other (by omega) _).other (by omega) _, ?_⟩, (bF1.other (by omega) _).set _⟩, (hB1.setCell (p := ⟨w.heap.size + 1 + 1 + 1, 0, none⟩) (by simp; try omega) _).setCell (p := ⟨w.heap.size + 1 + 1 + 1 + 1, 0, none⟩) (by simp; try omega) _⟩
    rw [if_neg (by simp)]
    exact (bL1.set _).other (by omega) _
  case done =>
    rintro D zs W hD rfl ⟨⟨⟨bO1, bL1⟩, bF1⟩, hB1⟩ hK
    rw [if_neg (by simp)] at bL1
    have cO := bO1.cell
    have cL := bL1.cell
    have cF := bF1.cell
    gi_wp2
    gi_region
    all_goals gi_wp2
    all_goals (refine ⟨by simp, .inl ⟨_, _, rfl, run_takeDeferred (show _ from hK), ?_⟩⟩; exact ⟨_, walked_res _ _ _ _ _ rfl rfl rfl, rfl, hB1.drew.trans (belowK_b (w := w) (Nat.le_refl _) W.drew D _ _ (by omega) hK rfl rfl)⟩)
  case stop =>
    rintro D c pre W _ _ h _
    exact h.elim

end Go.Proofs.YtaflodfngcgmbaaGreatDoor.DN
