/- IndexExact: the texts RiG of this seat, one behind the other. -/
import Derived.Test.YtknbehjhaaidoaaM22
import Derived.Test.YtknbehjhaaidoaaM15
/- The document's index: Mark, Move. -/
namespace Go.Proofs.Ytknbehjhaaidoaa.IX
open Go.RowKit Go.Shelf Mem HD TB
set_option linter.unusedVariables false
set_option linter.unusedSimpArgs false
section
variable {a : Act} {o : Oper} {w : World}
theorem y_fe0' {x : Operand} {b off : Nat} (ho : o.op = .fieldAddr 56 x 0) (hx : a.eval x = .pointer (some ⟨b, off, none⟩)) : (execOp a.eval o).run Try.prog w = .ok (.value (.pointer (some ⟨b, off, none⟩))) w := by
  generalize a.eval = ev at hx
  unfold execOp
  simp only [ho, hx]
  go_simp
theorem y_fe2' {x : Operand} {b off : Nat} (ho : o.op = .fieldAddr 56 x 2) (hx : a.eval x = .pointer (some ⟨b, off, none⟩)) : (execOp a.eval o).run Try.prog w = .ok (.value (.pointer (some ⟨b, off + 3, none⟩))) w := by
  generalize a.eval = ev at hx
  unfold execOp
  simp only [ho, hx]
  go_simp
theorem y_u32 {x : Operand} {p : Addr} {n : Int} (ho : o.op = .load 54 x) (hx : a.eval x = .pointer (some p)) (hc : w.cell? p = some (.int .u32 n)) : (execOp a.eval o).run Try.prog w = .ok (.value (.int .u32 n)) w := by
  generalize a.eval = ev at hx
  unfold execOp
  simp only [ho, hx]
  go_simp
theorem y_eq32 {x y : Operand} {m n : Int} {d : Bool} (hd : decide (m = n) = d) (ho : o.op = .binOp .eql 54 x y 54) (hx : a.eval x = .int .u32 m) (hy : a.eval y = .int .u32 n) : (execOp a.eval o).run Try.prog w = .ok (.value (.bool d)) w := by
  subst hd
  generalize a.eval = ev at hx hy
  unfold execOp
  simp only [ho, hx, hy]
  go_simp
  by_cases h : m = n <;> simp [h]
end
/-- The list with another entry under a key. -/
def turn (l : List (Key × Ent)) (k : Key) (e : Ent) : List (Key × Ent) := l.map fun y => if y.1 = k then (y.1, e) else y
theorem modify_turn {k : Key} {e : Ent} : ∀ {l : List (Key × Ent)} {i : Nat} {x : Key × Ent}, NK l → l[i]? = some x → x.1 = k → l.modify i (fun y => (y.1, e)) = turn l k e
  | [], i, x, hn, hx, hk => by cases hx
  | y :: l, 0, x, hn, hx, hk => by
    injection hx with hx
    subst hx
    unfold turn
    rw [List.modify_zero_cons, List.map_cons, if_pos hk]
    congr 1
    have h1 : ∀ z ∈ l, z.1 ≠ k := fun z hz c => by
      have h2 := (List.nodup_cons.1 (show (List.map Prod.fst (y :: l)).Nodup from hn)).1
      exact h2 (List.mem_map.2 ⟨z, hz, by rw [c, hk]⟩)
    have h3 : l.map (fun z => if z.1 = k then (z.1, e) else z) = l.map id := List.map_congr_left fun z hz => if_neg (h1 z hz)
    rw [h3, List.map_id]
  | y :: l, i + 1, x, hn, hx, hk => by
    have h2 := List.nodup_cons.1 (show (List.map Prod.fst (y :: l)).Nodup from hn)
    have hx' : l[i]? = some x := hx
    have ih := modify_turn (e := e) (show NK l from h2.2) hx' hk
    have h4 : y.1 ≠ k := fun c => h2.1 (List.mem_map.2 ⟨x, List.mem_of_getElem? hx', by rw [hk, c]⟩)
    rw [List.modify_succ_cons, ih]
    unfold turn
    rw [List.map_cons, if_neg h4]
theorem RNew.before {w w1 w' : World} {r : Nat} {l : List (Key × Ent)} (h : RNew w1 w' r l) (m : Mod no w w1) : RNew w w' r l := by
  obtain ⟨v, h1, h2, h3⟩ := h
  exact ⟨v, h1, h2.base m.size, (m.mono (fun _ _ c => c.elim)).and_then h3⟩
def RTurned (w w' : World) (r : Nat) (l : List (Key × Ent)) (k : Key) (f : Ent → Option Ent) (en : Ending) : Prop :=
  ∃ q, TB.Found l k q ∧ match (q.bind f : Option Ent) with
    | none => en = .returned (.bool false) ∧ Mod no w w'
    | some e => en = .returned (.bool true) ∧ RNew w w' r (turn l k e)
set_option maxRecDepth 100000 in
set_option maxHeartbeats 4000000 in
theorem rmark_any {w : World} {r : Nat} {v : Value} {l : List (Key × Ent)} (h : RAt w r v l) (hn : NK l) (hl : l.length ≤ 2097152) (k : Key) (m : Int) : Calls Try.prog 69 #[.pointer (some ⟨r, 0, none⟩), .agg k.L.toArray, .int .u32 m] w fun en w' => RTurned w w' r l k (marked m) en := by
  have hw := key1_facts w k
  have HA := Lib.hid (And.intro (show RAt (w.alloc (.cells k.L.toArray 39)) r v l from ⟨h.1.mod hw.1 (fun c => c), h.2.mod hw.1 (fun _ _ c => c)⟩) (And.intro hw (And.intro hn hl)))
  clear h hw hn hl
  go_enter Try.func69, Try.ntmps69
  go_upto_region 1 with fail
  obtain ⟨w2, hw2⟩ : ∃ w2, w2 = w.alloc (.cells k.L.toArray 39) := ⟨_, rfl⟩
  rw [← hw2] at HA ⊢
  clear hw2
  obtain ⟨h0, hh0⟩ : ∃ h0, h0 = w.heap.size := ⟨_, rfl⟩
  have HH := Lib.hid (Nat.le_of_eq hh0.symm)
  rw [← hh0] at HA ⊢
  clear hh0
  refine HD.wl_begin ?_
  refine HD.wl_takeF (d := some 9) (v := (.pointer (some ⟨r, 0, none⟩))) (by kernel_rfl) rfl rfl (y_move rfl rfl) ?_
  refine HD.wl_takeF (d := some 10) (v := (.agg k.L.toArray)) (a' := ⟨List.toArray ((.pointer (some ⟨r, 0, none⟩))::(.agg k.L.toArray)::(.int .u32 m)::undef::(.pointer (some ⟨h0, 0, none⟩))::undef::(.bool false)::undef::undef::(.pointer (some ⟨r, 0, none⟩))::(.agg k.L.toArray)::undef::undef::undef::undef::undef::undef::undef::undef::undef::undef::undef::undef::undef::undef::undef::undef::undef::undef::undef::undef::undef::undef::undef::undef::undef::undef::undef::undef::undef::undef::[]), []⟩) (by kernel_rfl) rfl (by kernel_rfl) (y_key rfl rfl HA.out.2.1.2) ?_
  refine HD.wl_callG (d := some 11) (fun v9 => ⟨List.toArray ((.pointer (some ⟨r, 0, none⟩))::(.agg k.L.toArray)::(.int .u32 m)::undef::(.pointer (some ⟨h0, 0, none⟩))::undef::(.bool false)::undef::undef::(.pointer (some ⟨r, 0, none⟩))::(.agg k.L.toArray)::(v9)::undef::undef::undef::undef::undef::undef::undef::undef::undef::undef::undef::undef::undef::undef::undef::undef::undef::undef::undef::undef::undef::undef::undef::undef::undef::undef::undef::undef::undef::[]), []⟩) (by kernel_rfl) rfl (fun _ => by kernel_rfl) fun K hK => ?_
  refine op_c2 (fun _ _ => rfl) rfl rfl rfl (rfind_any HA.out.1 HA.out.2.2.2 k) ?_
  rintro e w3 ⟨q, rfl, hat, hm3⟩
  have HF3 := Lib.hid hm3
  have HF := Lib.hid (And.intro hat (And.intro (HA.out.2.1.1.and_then hm3) (And.intro (HA.out.1.1.mod hm3 (fun c => c)) (HA.out.1.2.mod hm3 (fun _ _ c => c)))))
  refine ⟨_, rfl, hK _ _ ?_⟩
  clear hK K hat hm3
  refine HD.wl_takeF (d := some 7) (v := (.int .i64 (atV q))) (a' := ⟨List.toArray ((.pointer (some ⟨r, 0, none⟩))::(.agg k.L.toArray)::(.int .u32 m)::undef::(.pointer (some ⟨h0, 0, none⟩))::undef::(.bool false)::(.int .i64 (atV q))::undef::(.pointer (some ⟨r, 0, none⟩))::(.agg k.L.toArray)::(.int .i64 (atV q))::undef::undef::undef::undef::undef::undef::undef::undef::undef::undef::undef::undef::undef::undef::undef::undef::undef::undef::undef::undef::undef::undef::undef::undef::undef::undef::undef::undef::undef::[]), []⟩) (by kernel_rfl) rfl (by kernel_rfl) (y_assign rfl rfl) ?_
  refine HD.wl_done ?_
  cases q with
  | none =>
    have d1 : decide ((-1 : Int) < 0) = true := by decide
    go_upto_region 2 with fail
    refine HD.wl_begin ?_
    refine HD.wl_takeF (d := some 12) (v := (.int .i64 (-1))) (by kernel_rfl) rfl rfl (y_move rfl rfl) ?_
    refine HD.wl_takeF (d := some 13) (v := (.bool true)) (by kernel_rfl) rfl rfl (y_lss0 d1 rfl rfl) ?_
    refine HD.wl_takeF (d := some 14) (v := (.bool true)) (a' := ⟨List.toArray ((.pointer (some ⟨r, 0, none⟩))::(.agg k.L.toArray)::(.int .u32 m)::undef::(.pointer (some ⟨h0, 0, none⟩))::undef::(.bool false)::(.int .i64 (-1))::undef::(.pointer (some ⟨r, 0, none⟩))::(.agg k.L.toArray)::(.int .i64 (-1))::(.int .i64 (-1))::(.bool true)::(.bool true)::undef::undef::undef::undef::undef::undef::undef::undef::undef::undef::undef::undef::undef::undef::undef::undef::undef::undef::undef::undef::undef::undef::undef::undef::undef::undef::[]), []⟩) (by kernel_rfl) rfl (by kernel_rfl) (y_move rfl rfl) ?_
    refine HD.wl_skipF (d := some 15) (a' := ⟨List.toArray ((.pointer (some ⟨r, 0, none⟩))::(.agg k.L.toArray)::(.int .u32 m)::undef::(.pointer (some ⟨h0, 0, none⟩))::undef::(.bool false)::(.int .i64 (-1))::undef::(.pointer (some ⟨r, 0, none⟩))::(.agg k.L.toArray)::(.int .i64 (-1))::(.int .i64 (-1))::(.bool true)::(.bool true)::(undef)::undef::undef::undef::undef::undef::undef::undef::undef::undef::undef::undef::undef::undef::undef::undef::undef::undef::undef::undef::undef::undef::undef::undef::undef::undef::[]), []⟩) (by kernel_rfl) rfl (by kernel_rfl) ?_
    refine HD.wl_skipF (d := some 16) (a' := ⟨List.toArray ((.pointer (some ⟨r, 0, none⟩))::(.agg k.L.toArray)::(.int .u32 m)::undef::(.pointer (some ⟨h0, 0, none⟩))::undef::(.bool false)::(.int .i64 (-1))::undef::(.pointer (some ⟨r, 0, none⟩))::(.agg k.L.toArray)::(.int .i64 (-1))::(.int .i64 (-1))::(.bool true)::(.bool true)::(undef)::(undef)::undef::undef::undef::undef::undef::undef::undef::undef::undef::undef::undef::undef::undef::undef::undef::undef::undef::undef::undef::undef::undef::undef::undef::undef::[]), []⟩) (by kernel_rfl) rfl (by kernel_rfl) ?_
    refine HD.wl_skipF (d := some 17) (a' := ⟨List.toArray ((.pointer (some ⟨r, 0, none⟩))::(.agg k.L.toArray)::(.int .u32 m)::undef::(.pointer (some ⟨h0, 0, none⟩))::undef::(.bool false)::(.int .i64 (-1))::undef::(.pointer (some ⟨r, 0, none⟩))::(.agg k.L.toArray)::(.int .i64 (-1))::(.int .i64 (-1))::(.bool true)::(.bool true)::(undef)::(undef)::(undef)::undef::undef::undef::undef::undef::undef::undef::undef::undef::undef::undef::undef::undef::undef::undef::undef::undef::undef::undef::undef::undef::undef::undef::[]), []⟩) (by kernel_rfl) rfl (by kernel_rfl) ?_
    refine HD.wl_skipF (d := some 18) (a' := ⟨List.toArray ((.pointer (some ⟨r, 0, none⟩))::(.agg k.L.toArray)::(.int .u32 m)::undef::(.pointer (some ⟨h0, 0, none⟩))::undef::(.bool false)::(.int .i64 (-1))::undef::(.pointer (some ⟨r, 0, none⟩))::(.agg k.L.toArray)::(.int .i64 (-1))::(.int .i64 (-1))::(.bool true)::(.bool true)::(undef)::(undef)::(undef)::(undef)::undef::undef::undef::undef::undef::undef::undef::undef::undef::undef::undef::undef::undef::undef::undef::undef::undef::undef::undef::undef::undef::undef::[]), []⟩) (by kernel_rfl) rfl (by kernel_rfl) ?_
    refine HD.wl_skipF (d := some 19) (a' := ⟨List.toArray ((.pointer (some ⟨r, 0, none⟩))::(.agg k.L.toArray)::(.int .u32 m)::undef::(.pointer (some ⟨h0, 0, none⟩))::undef::(.bool false)::(.int .i64 (-1))::undef::(.pointer (some ⟨r, 0, none⟩))::(.agg k.L.toArray)::(.int .i64 (-1))::(.int .i64 (-1))::(.bool true)::(.bool true)::(undef)::(undef)::(undef)::(undef)::(undef)::undef::undef::undef::undef::undef::undef::undef::undef::undef::undef::undef::undef::undef::undef::undef::undef::undef::undef::undef::undef::undef::[]), []⟩) (by kernel_rfl) rfl (by kernel_rfl) ?_
    refine HD.wl_skipF (d := some 20) (a' := ⟨List.toArray ((.pointer (some ⟨r, 0, none⟩))::(.agg k.L.toArray)::(.int .u32 m)::undef::(.pointer (some ⟨h0, 0, none⟩))::undef::(.bool false)::(.int .i64 (-1))::undef::(.pointer (some ⟨r, 0, none⟩))::(.agg k.L.toArray)::(.int .i64 (-1))::(.int .i64 (-1))::(.bool true)::(.bool true)::(undef)::(undef)::(undef)::(undef)::(undef)::(undef)::undef::undef::undef::undef::undef::undef::undef::undef::undef::undef::undef::undef::undef::undef::undef::undef::undef::undef::undef::undef::[]), []⟩) (by kernel_rfl) rfl (by kernel_rfl) ?_
    refine HD.wl_skipF (d := some 21) (a' := ⟨List.toArray ((.pointer (some ⟨r, 0, none⟩))::(.agg k.L.toArray)::(.int .u32 m)::undef::(.pointer (some ⟨h0, 0, none⟩))::undef::(.bool false)::(.int .i64 (-1))::undef::(.pointer (some ⟨r, 0, none⟩))::(.agg k.L.toArray)::(.int .i64 (-1))::(.int .i64 (-1))::(.bool true)::(.bool true)::(undef)::(undef)::(undef)::(undef)::(undef)::(undef)::(undef)::undef::undef::undef::undef::undef::undef::undef::undef::undef::undef::undef::undef::undef::undef::undef::undef::undef::undef::undef::[]), []⟩) (by kernel_rfl) rfl (by kernel_rfl) ?_
    refine HD.wl_skipF (d := some 22) (a' := ⟨List.toArray ((.pointer (some ⟨r, 0, none⟩))::(.agg k.L.toArray)::(.int .u32 m)::undef::(.pointer (some ⟨h0, 0, none⟩))::undef::(.bool false)::(.int .i64 (-1))::undef::(.pointer (some ⟨r, 0, none⟩))::(.agg k.L.toArray)::(.int .i64 (-1))::(.int .i64 (-1))::(.bool true)::(.bool true)::(undef)::(undef)::(undef)::(undef)::(undef)::(undef)::(undef)::(undef)::undef::undef::undef::undef::undef::undef::undef::undef::undef::undef::undef::undef::undef::undef::undef::undef::undef::undef::[]), []⟩) (by kernel_rfl) rfl (by kernel_rfl) ?_
    refine HD.wl_skipF (d := some 23) (a' := ⟨List.toArray ((.pointer (some ⟨r, 0, none⟩))::(.agg k.L.toArray)::(.int .u32 m)::undef::(.pointer (some ⟨h0, 0, none⟩))::undef::(.bool false)::(.int .i64 (-1))::undef::(.pointer (some ⟨r, 0, none⟩))::(.agg k.L.toArray)::(.int .i64 (-1))::(.int .i64 (-1))::(.bool true)::(.bool true)::(undef)::(undef)::(undef)::(undef)::(undef)::(undef)::(undef)::(undef)::(undef)::undef::undef::undef::undef::undef::undef::undef::undef::undef::undef::undef::undef::undef::undef::undef::undef::undef::[]), []⟩) (by kernel_rfl) rfl (by kernel_rfl) ?_
    refine HD.wl_skipF (d := some 24) (a' := ⟨List.toArray ((.pointer (some ⟨r, 0, none⟩))::(.agg k.L.toArray)::(.int .u32 m)::undef::(.pointer (some ⟨h0, 0, none⟩))::undef::(.bool false)::(.int .i64 (-1))::undef::(.pointer (some ⟨r, 0, none⟩))::(.agg k.L.toArray)::(.int .i64 (-1))::(.int .i64 (-1))::(.bool true)::(.bool true)::(undef)::(undef)::(undef)::(undef)::(undef)::(undef)::(undef)::(undef)::(undef)::(undef)::undef::undef::undef::undef::undef::undef::undef::undef::undef::undef::undef::undef::undef::undef::undef::undef::[]), []⟩) (by kernel_rfl) rfl (by kernel_rfl) ?_
    refine HD.wl_skipF (d := some 25) (a' := ⟨List.toArray ((.pointer (some ⟨r, 0, none⟩))::(.agg k.L.toArray)::(.int .u32 m)::undef::(.pointer (some ⟨h0, 0, none⟩))::undef::(.bool false)::(.int .i64 (-1))::undef::(.pointer (some ⟨r, 0, none⟩))::(.agg k.L.toArray)::(.int .i64 (-1))::(.int .i64 (-1))::(.bool true)::(.bool true)::(undef)::(undef)::(undef)::(undef)::(undef)::(undef)::(undef)::(undef)::(undef)::(undef)::(undef)::undef::undef::undef::undef::undef::undef::undef::undef::undef::undef::undef::undef::undef::undef::undef::[]), []⟩) (by kernel_rfl) rfl (by kernel_rfl) ?_
    refine HD.wl_takeF (d := some 26) (v := (.bool true)) (a' := ⟨List.toArray ((.pointer (some ⟨r, 0, none⟩))::(.agg k.L.toArray)::(.int .u32 m)::undef::(.pointer (some ⟨h0, 0, none⟩))::undef::(.bool false)::(.int .i64 (-1))::undef::(.pointer (some ⟨r, 0, none⟩))::(.agg k.L.toArray)::(.int .i64 (-1))::(.int .i64 (-1))::(.bool true)::(.bool true)::(undef)::(undef)::(undef)::(undef)::(undef)::(undef)::(undef)::(undef)::(undef)::(undef)::(undef)::(.bool true)::undef::undef::undef::undef::undef::undef::undef::undef::undef::undef::undef::undef::undef::undef::[]), []⟩) (by kernel_rfl) rfl (by kernel_rfl) (y_pick' (b := true) rfl rfl rfl) ?_
    refine HD.wl_done ?_
    go_wp2_with fail
    go_ret
    exact ⟨none, TB.Found.no fun e c => HF.out.1 (k, e) c rfl, rfl, HF.out.2.1⟩
  | some i =>
    obtain ⟨x, hx, hxk⟩ := HF.out.1
    have hi := (List.getElem?_eq_some_iff.1 hx).1
    have d1 : decide ((i : Int) < 0) = false := decide_eq_false (by omega)
    obtain ⟨A, c, rfl, hrd⟩ := HF.out.2.2.2
    obtain ⟨b, o, rfl, hr⟩ := hrd i x hx
    have hfd : TB.Found l k (some x.2) := TB.Found.yes HA.out.2.2.1 (by have := List.mem_of_getElem? hx; rw [← hxk]; exact this)
    have hmt : ∀ e, l.modify i (fun y => (y.1, e)) = turn l k e := fun e => modify_turn HA.out.2.2.1 hx hxk
    have HC := Lib.hid (And.intro hi (And.intro (pair_key hr).2 (And.intro hfd hmt)))
    clear hr hrd hi hfd hmt
    by_cases he : x.2.mark = m
    · have HE := Lib.hid he
      have hd : decide (x.2.mark = m) = true := decide_eq_true he
      clear he
      go_upto_region 2 with fail
      refine HD.wl_begin ?_
      refine HD.wl_takeF (d := some 12) (v := (.int .i64 (i : Int))) (by kernel_rfl) rfl rfl (y_move rfl rfl) ?_
      refine HD.wl_takeF (d := some 13) (v := (.bool false)) (by kernel_rfl) rfl rfl (y_lss0 d1 rfl rfl) ?_
      refine HD.wl_takeF (d := some 14) (v := (.bool false)) (a' := ⟨List.toArray ((.pointer (some ⟨r, 0, none⟩))::(.agg k.L.toArray)::(.int .u32 m)::undef::(.pointer (some ⟨h0, 0, none⟩))::undef::(.bool false)::(.int .i64 (i : Int))::undef::(.pointer (some ⟨r, 0, none⟩))::(.agg k.L.toArray)::(.int .i64 (i : Int))::(.int .i64 (i : Int))::(.bool false)::(.bool false)::undef::undef::undef::undef::undef::undef::undef::undef::undef::undef::undef::undef::undef::undef::undef::undef::undef::undef::undef::undef::undef::undef::undef::undef::undef::undef::[]), []⟩) (by kernel_rfl) rfl (by kernel_rfl) (y_move rfl rfl) ?_
      refine HD.wl_takeF (d := some 15) (v := (.pointer (some ⟨r, 0, none⟩))) (by kernel_rfl) rfl rfl (y_move rfl rfl) ?_
      refine HD.wl_takeF (d := some 16) (v := (.pointer (some ⟨r, 0, none⟩))) (by kernel_rfl) rfl rfl (y_nil rfl rfl) ?_
      refine HD.wl_takeF (d := some 17) (v := (.pointer (some ⟨r, 0, none⟩))) (a' := ⟨List.toArray ((.pointer (some ⟨r, 0, none⟩))::(.agg k.L.toArray)::(.int .u32 m)::undef::(.pointer (some ⟨h0, 0, none⟩))::undef::(.bool false)::(.int .i64 (i : Int))::undef::(.pointer (some ⟨r, 0, none⟩))::(.agg k.L.toArray)::(.int .i64 (i : Int))::(.int .i64 (i : Int))::(.bool false)::(.bool false)::(.pointer (some ⟨r, 0, none⟩))::(.pointer (some ⟨r, 0, none⟩))::(.pointer (some ⟨r, 0, none⟩))::undef::undef::undef::undef::undef::undef::undef::undef::undef::undef::undef::undef::undef::undef::undef::undef::undef::undef::undef::undef::undef::undef::undef::[]), []⟩) (by kernel_rfl) rfl (by kernel_rfl) (y_fri rfl rfl) ?_
      refine HD.wl_takeF (d := some 18) (v := (.slice (some ⟨b, o, none⟩) l.length c)) (by kernel_rfl) rfl rfl (y_ldkv rfl rfl (HF.out.2.2.1.cell 0)) ?_
      refine HD.wl_takeF (d := some 19) (v := (.int .i64 (i : Int))) (by kernel_rfl) rfl rfl (y_move rfl rfl) ?_
      refine HD.wl_takeF (d := some 20) (v := (.pointer (some ⟨b, o + i * 36, none⟩))) (a' := ⟨List.toArray ((.pointer (some ⟨r, 0, none⟩))::(.agg k.L.toArray)::(.int .u32 m)::undef::(.pointer (some ⟨h0, 0, none⟩))::undef::(.bool false)::(.int .i64 (i : Int))::undef::(.pointer (some ⟨r, 0, none⟩))::(.agg k.L.toArray)::(.int .i64 (i : Int))::(.int .i64 (i : Int))::(.bool false)::(.bool false)::(.pointer (some ⟨r, 0, none⟩))::(.pointer (some ⟨r, 0, none⟩))::(.pointer (some ⟨r, 0, none⟩))::(.slice (some ⟨b, o, none⟩) l.length c)::(.int .i64 (i : Int))::(.pointer (some ⟨b, o + i * 36, none⟩))::undef::undef::undef::undef::undef::undef::undef::undef::undef::undef::undef::undef::undef::undef::undef::undef::undef::undef::undef::undef::[]), []⟩) (by kernel_rfl) rfl (by kernel_rfl) (y_ixkv rfl rfl rfl HC.out.1) ?_
      refine HD.wl_takeF (d := some 21) (v := (.pointer (some ⟨b, o + i * 36 + 32, none⟩))) (by kernel_rfl) rfl rfl (y_fk1 rfl rfl) ?_
      refine HD.wl_takeF (d := some 22) (v := (.pointer (some ⟨b, o + i * 36 + 32 + 3, none⟩))) (by kernel_rfl) rfl rfl (y_fe2' rfl rfl) ?_
      refine HD.wl_takeF (d := some 23) (v := (.int .u32 x.2.mark)) (a' := ⟨List.toArray ((.pointer (some ⟨r, 0, none⟩))::(.agg k.L.toArray)::(.int .u32 m)::undef::(.pointer (some ⟨h0, 0, none⟩))::undef::(.bool false)::(.int .i64 (i : Int))::undef::(.pointer (some ⟨r, 0, none⟩))::(.agg k.L.toArray)::(.int .i64 (i : Int))::(.int .i64 (i : Int))::(.bool false)::(.bool false)::(.pointer (some ⟨r, 0, none⟩))::(.pointer (some ⟨r, 0, none⟩))::(.pointer (some ⟨r, 0, none⟩))::(.slice (some ⟨b, o, none⟩) l.length c)::(.int .i64 (i : Int))::(.pointer (some ⟨b, o + i * 36, none⟩))::(.pointer (some ⟨b, o + i * 36 + 32, none⟩))::(.pointer (some ⟨b, o + i * 36 + 32 + 3, none⟩))::(.int .u32 x.2.mark)::undef::undef::undef::undef::undef::undef::undef::undef::undef::undef::undef::undef::undef::undef::undef::undef::undef::[]), []⟩) (by kernel_rfl) rfl (by kernel_rfl) (y_u32 rfl rfl (HC.out.2.1 3 _ rfl)) ?_
      refine HD.wl_takeF (d := some 24) (v := (.int .u32 m)) (by kernel_rfl) rfl rfl (y_move rfl rfl) ?_
      refine HD.wl_takeF (d := some 25) (v := (.bool true)) (by kernel_rfl) rfl rfl (y_eq32 hd rfl rfl rfl) ?_
      refine HD.wl_takeF (d := some 26) (v := (.bool true)) (a' := ⟨List.toArray ((.pointer (some ⟨r, 0, none⟩))::(.agg k.L.toArray)::(.int .u32 m)::undef::(.pointer (some ⟨h0, 0, none⟩))::undef::(.bool false)::(.int .i64 (i : Int))::undef::(.pointer (some ⟨r, 0, none⟩))::(.agg k.L.toArray)::(.int .i64 (i : Int))::(.int .i64 (i : Int))::(.bool false)::(.bool false)::(.pointer (some ⟨r, 0, none⟩))::(.pointer (some ⟨r, 0, none⟩))::(.pointer (some ⟨r, 0, none⟩))::(.slice (some ⟨b, o, none⟩) l.length c)::(.int .i64 (i : Int))::(.pointer (some ⟨b, o + i * 36, none⟩))::(.pointer (some ⟨b, o + i * 36 + 32, none⟩))::(.pointer (some ⟨b, o + i * 36 + 32 + 3, none⟩))::(.int .u32 x.2.mark)::(.int .u32 m)::(.bool true)::(.bool true)::undef::undef::undef::undef::undef::undef::undef::undef::undef::undef::undef::undef::undef::undef::[]), []⟩) (by kernel_rfl) rfl (by kernel_rfl) (y_pick' (b := false) rfl rfl rfl) ?_
      refine HD.wl_done ?_
      go_wp2_with fail
      go_ret
      refine ⟨some x.2, HC.out.2.2.1, ?_⟩
      have e1 : (some x.2).bind (marked m) = none := by show marked m x.2 = none; unfold marked; rw [if_pos HE.out]
      rw [e1]
      exact ⟨rfl, HF.out.2.1⟩
    · have HE := Lib.hid he
      have hd : decide (x.2.mark = m) = false := decide_eq_false he
      clear he
      go_upto_region 2 with fail
      refine HD.wl_begin ?_
      refine HD.wl_takeF (d := some 12) (v := (.int .i64 (i : Int))) (by kernel_rfl) rfl rfl (y_move rfl rfl) ?_
      refine HD.wl_takeF (d := some 13) (v := (.bool false)) (by kernel_rfl) rfl rfl (y_lss0 d1 rfl rfl) ?_
      refine HD.wl_takeF (d := some 14) (v := (.bool false)) (a' := ⟨List.toArray ((.pointer (some ⟨r, 0, none⟩))::(.agg k.L.toArray)::(.int .u32 m)::undef::(.pointer (some ⟨h0, 0, none⟩))::undef::(.bool false)::(.int .i64 (i : Int))::undef::(.pointer (some ⟨r, 0, none⟩))::(.agg k.L.toArray)::(.int .i64 (i : Int))::(.int .i64 (i : Int))::(.bool false)::(.bool false)::undef::undef::undef::undef::undef::undef::undef::undef::undef::undef::undef::undef::undef::undef::undef::undef::undef::undef::undef::undef::undef::undef::undef::undef::undef::undef::[]), []⟩) (by kernel_rfl) rfl (by kernel_rfl) (y_move rfl rfl) ?_
      refine HD.wl_takeF (d := some 15) (v := (.pointer (some ⟨r, 0, none⟩))) (by kernel_rfl) rfl rfl (y_move rfl rfl) ?_
      refine HD.wl_takeF (d := some 16) (v := (.pointer (some ⟨r, 0, none⟩))) (by kernel_rfl) rfl rfl (y_nil rfl rfl) ?_
      refine HD.wl_takeF (d := some 17) (v := (.pointer (some ⟨r, 0, none⟩))) (a' := ⟨List.toArray ((.pointer (some ⟨r, 0, none⟩))::(.agg k.L.toArray)::(.int .u32 m)::undef::(.pointer (some ⟨h0, 0, none⟩))::undef::(.bool false)::(.int .i64 (i : Int))::undef::(.pointer (some ⟨r, 0, none⟩))::(.agg k.L.toArray)::(.int .i64 (i : Int))::(.int .i64 (i : Int))::(.bool false)::(.bool false)::(.pointer (some ⟨r, 0, none⟩))::(.pointer (some ⟨r, 0, none⟩))::(.pointer (some ⟨r, 0, none⟩))::undef::undef::undef::undef::undef::undef::undef::undef::undef::undef::undef::undef::undef::undef::undef::undef::undef::undef::undef::undef::undef::undef::undef::[]), []⟩) (by kernel_rfl) rfl (by kernel_rfl) (y_fri rfl rfl) ?_
      refine HD.wl_takeF (d := some 18) (v := (.slice (some ⟨b, o, none⟩) l.length c)) (by kernel_rfl) rfl rfl (y_ldkv rfl rfl (HF.out.2.2.1.cell 0)) ?_
      refine HD.wl_takeF (d := some 19) (v := (.int .i64 (i : Int))) (by kernel_rfl) rfl rfl (y_move rfl rfl) ?_
      refine HD.wl_takeF (d := some 20) (v := (.pointer (some ⟨b, o + i * 36, none⟩))) (a' := ⟨List.toArray ((.pointer (some ⟨r, 0, none⟩))::(.agg k.L.toArray)::(.int .u32 m)::undef::(.pointer (some ⟨h0, 0, none⟩))::undef::(.bool false)::(.int .i64 (i : Int))::undef::(.pointer (some ⟨r, 0, none⟩))::(.agg k.L.toArray)::(.int .i64 (i : Int))::(.int .i64 (i : Int))::(.bool false)::(.bool false)::(.pointer (some ⟨r, 0, none⟩))::(.pointer (some ⟨r, 0, none⟩))::(.pointer (some ⟨r, 0, none⟩))::(.slice (some ⟨b, o, none⟩) l.length c)::(.int .i64 (i : Int))::(.pointer (some ⟨b, o + i * 36, none⟩))::undef::undef::undef::undef::undef::undef::undef::undef::undef::undef::undef::undef::undef::undef::undef::undef::undef::undef::undef::undef::[]), []⟩) (by kernel_rfl) rfl (by kernel_rfl) (y_ixkv rfl rfl rfl HC.out.1) ?_
      refine HD.wl_takeF (d := some 21) (v := (.pointer (some ⟨b, o + i * 36 + 32, none⟩))) (by kernel_rfl) rfl rfl (y_fk1 rfl rfl) ?_
      refine HD.wl_takeF (d := some 22) (v := (.pointer (some ⟨b, o + i * 36 + 32 + 3, none⟩))) (by kernel_rfl) rfl rfl (y_fe2' rfl rfl) ?_
      refine HD.wl_takeF (d := some 23) (v := (.int .u32 x.2.mark)) (a' := ⟨List.toArray ((.pointer (some ⟨r, 0, none⟩))::(.agg k.L.toArray)::(.int .u32 m)::undef::(.pointer (some ⟨h0, 0, none⟩))::undef::(.bool false)::(.int .i64 (i : Int))::undef::(.pointer (some ⟨r, 0, none⟩))::(.agg k.L.toArray)::(.int .i64 (i : Int))::(.int .i64 (i : Int))::(.bool false)::(.bool false)::(.pointer (some ⟨r, 0, none⟩))::(.pointer (some ⟨r, 0, none⟩))::(.pointer (some ⟨r, 0, none⟩))::(.slice (some ⟨b, o, none⟩) l.length c)::(.int .i64 (i : Int))::(.pointer (some ⟨b, o + i * 36, none⟩))::(.pointer (some ⟨b, o + i * 36 + 32, none⟩))::(.pointer (some ⟨b, o + i * 36 + 32 + 3, none⟩))::(.int .u32 x.2.mark)::undef::undef::undef::undef::undef::undef::undef::undef::undef::undef::undef::undef::undef::undef::undef::undef::undef::[]), []⟩) (by kernel_rfl) rfl (by kernel_rfl) (y_u32 rfl rfl (HC.out.2.1 3 _ rfl)) ?_
      refine HD.wl_takeF (d := some 24) (v := (.int .u32 m)) (by kernel_rfl) rfl rfl (y_move rfl rfl) ?_
      refine HD.wl_takeF (d := some 25) (v := (.bool false)) (by kernel_rfl) rfl rfl (y_eq32 hd rfl rfl rfl) ?_
      refine HD.wl_takeF (d := some 26) (v := (.bool false)) (a' := ⟨List.toArray ((.pointer (some ⟨r, 0, none⟩))::(.agg k.L.toArray)::(.int .u32 m)::undef::(.pointer (some ⟨h0, 0, none⟩))::undef::(.bool false)::(.int .i64 (i : Int))::undef::(.pointer (some ⟨r, 0, none⟩))::(.agg k.L.toArray)::(.int .i64 (i : Int))::(.int .i64 (i : Int))::(.bool false)::(.bool false)::(.pointer (some ⟨r, 0, none⟩))::(.pointer (some ⟨r, 0, none⟩))::(.pointer (some ⟨r, 0, none⟩))::(.slice (some ⟨b, o, none⟩) l.length c)::(.int .i64 (i : Int))::(.pointer (some ⟨b, o + i * 36, none⟩))::(.pointer (some ⟨b, o + i * 36 + 32, none⟩))::(.pointer (some ⟨b, o + i * 36 + 32 + 3, none⟩))::(.int .u32 x.2.mark)::(.int .u32 m)::(.bool false)::(.bool false)::undef::undef::undef::undef::undef::undef::undef::undef::undef::undef::undef::undef::undef::undef::[]), []⟩) (by kernel_rfl) rfl (by kernel_rfl) (y_pick' (b := false) rfl rfl rfl) ?_
      refine HD.wl_done ?_
      go_upto_region 4 with fail
      have HLT := Lib.hid (show h0 + 0 < w3.heap.size from by have := cell_below ((range_mod HA.out.2.1.2 HF3.out (fun c => c)) 0 _ (List.getElem?_eq_getElem (by rw [Key.len]; decide))); simpa using this)
      have HBL := Lib.hid (show b < w3.heap.size from by have := cell_below (HC.out.2.1 0 _ rfl); simpa using this)
      refine HD.wl_begin ?_
      refine HD.wl_takeF (d := some 27) (v := (.pointer (some ⟨r, 0, none⟩))) (by kernel_rfl) rfl rfl (y_move rfl rfl) ?_
      refine HD.wl_takeF (d := some 28) (v := (.pointer (some ⟨r, 0, none⟩))) (by kernel_rfl) rfl rfl (y_nil rfl rfl) ?_
      refine HD.wl_takeF (d := some 29) (v := (.pointer (some ⟨r, 0, none⟩))) (a' := ⟨List.toArray ((.pointer (some ⟨r, 0, none⟩))::(.agg k.L.toArray)::(.int .u32 m)::undef::(.pointer (some ⟨h0, 0, none⟩))::undef::(.bool false)::(.int .i64 (i : Int))::undef::(.pointer (some ⟨r, 0, none⟩))::(.agg k.L.toArray)::(.int .i64 (i : Int))::(.int .i64 (i : Int))::(.bool false)::(.bool false)::(.pointer (some ⟨r, 0, none⟩))::(.pointer (some ⟨r, 0, none⟩))::(.pointer (some ⟨r, 0, none⟩))::(.slice (some ⟨b, o, none⟩) l.length c)::(.int .i64 (i : Int))::(.pointer (some ⟨b, o + i * 36, none⟩))::(.pointer (some ⟨b, o + i * 36 + 32, none⟩))::(.pointer (some ⟨b, o + i * 36 + 32 + 3, none⟩))::(.int .u32 x.2.mark)::(.int .u32 m)::(.bool false)::(.bool false)::(.pointer (some ⟨r, 0, none⟩))::(.pointer (some ⟨r, 0, none⟩))::(.pointer (some ⟨r, 0, none⟩))::undef::undef::undef::undef::undef::undef::undef::undef::undef::undef::undef::[]), []⟩) (by kernel_rfl) rfl (by kernel_rfl) (y_fri rfl rfl) ?_
      refine HD.wl_takeF (d := some 30) (v := (.slice (some ⟨b, o, none⟩) l.length c)) (by kernel_rfl) rfl rfl (y_ldkv rfl rfl (HF.out.2.2.1.cell 0)) ?_
      refine HD.wl_takeF (d := some 31) (v := (.int .i64 (i : Int))) (by kernel_rfl) rfl rfl (y_move rfl rfl) ?_
      refine HD.wl_takeF (d := some 32) (v := (.pointer (some ⟨b, o + i * 36, none⟩))) (a' := ⟨List.toArray ((.pointer (some ⟨r, 0, none⟩))::(.agg k.L.toArray)::(.int .u32 m)::undef::(.pointer (some ⟨h0, 0, none⟩))::undef::(.bool false)::(.int .i64 (i : Int))::undef::(.pointer (some ⟨r, 0, none⟩))::(.agg k.L.toArray)::(.int .i64 (i : Int))::(.int .i64 (i : Int))::(.bool false)::(.bool false)::(.pointer (some ⟨r, 0, none⟩))::(.pointer (some ⟨r, 0, none⟩))::(.pointer (some ⟨r, 0, none⟩))::(.slice (some ⟨b, o, none⟩) l.length c)::(.int .i64 (i : Int))::(.pointer (some ⟨b, o + i * 36, none⟩))::(.pointer (some ⟨b, o + i * 36 + 32, none⟩))::(.pointer (some ⟨b, o + i * 36 + 32 + 3, none⟩))::(.int .u32 x.2.mark)::(.int .u32 m)::(.bool false)::(.bool false)::(.pointer (some ⟨r, 0, none⟩))::(.pointer (some ⟨r, 0, none⟩))::(.pointer (some ⟨r, 0, none⟩))::(.slice (some ⟨b, o, none⟩) l.length c)::(.int .i64 (i : Int))::(.pointer (some ⟨b, o + i * 36, none⟩))::undef::undef::undef::undef::undef::undef::undef::undef::[]), []⟩) (by kernel_rfl) rfl (by kernel_rfl) (y_ixkv rfl rfl rfl HC.out.1) ?_
      refine HD.wl_takeF (d := some 33) (v := (.pointer (some ⟨b, o + i * 36 + 32, none⟩))) (by kernel_rfl) rfl rfl (y_fk1 rfl rfl) ?_
      refine HD.wl_takeF (d := some 34) (v := (.agg x.2.L.toArray)) (a' := ⟨List.toArray ((.pointer (some ⟨r, 0, none⟩))::(.agg k.L.toArray)::(.int .u32 m)::undef::(.pointer (some ⟨h0, 0, none⟩))::undef::(.bool false)::(.int .i64 (i : Int))::undef::(.pointer (some ⟨r, 0, none⟩))::(.agg k.L.toArray)::(.int .i64 (i : Int))::(.int .i64 (i : Int))::(.bool false)::(.bool false)::(.pointer (some ⟨r, 0, none⟩))::(.pointer (some ⟨r, 0, none⟩))::(.pointer (some ⟨r, 0, none⟩))::(.slice (some ⟨b, o, none⟩) l.length c)::(.int .i64 (i : Int))::(.pointer (some ⟨b, o + i * 36, none⟩))::(.pointer (some ⟨b, o + i * 36 + 32, none⟩))::(.pointer (some ⟨b, o + i * 36 + 32 + 3, none⟩))::(.int .u32 x.2.mark)::(.int .u32 m)::(.bool false)::(.bool false)::(.pointer (some ⟨r, 0, none⟩))::(.pointer (some ⟨r, 0, none⟩))::(.pointer (some ⟨r, 0, none⟩))::(.slice (some ⟨b, o, none⟩) l.length c)::(.int .i64 (i : Int))::(.pointer (some ⟨b, o + i * 36, none⟩))::(.pointer (some ⟨b, o + i * 36 + 32, none⟩))::(.agg x.2.L.toArray)::undef::undef::undef::undef::undef::undef::[]), []⟩) (by kernel_rfl) rfl (by kernel_rfl) (y_ent rfl rfl HC.out.2.1) ?_
      obtain ⟨h8, hh8⟩ : ∃ h8, h8 = w3.heap.size := ⟨_, rfl⟩
      have hl8 : h0 + 0 < h8 := by rw [hh8]; exact HLT.out
      refine HD.wl_takeF (d := some 8) (v := (.pointer (some ⟨h8, 0, none⟩))) (a' := ⟨List.toArray ((.pointer (some ⟨r, 0, none⟩))::(.agg k.L.toArray)::(.int .u32 m)::undef::(.pointer (some ⟨h0, 0, none⟩))::undef::(.bool false)::(.int .i64 (i : Int))::(.pointer (some ⟨h8, 0, none⟩))::(.pointer (some ⟨r, 0, none⟩))::(.agg k.L.toArray)::(.int .i64 (i : Int))::(.int .i64 (i : Int))::(.bool false)::(.bool false)::(.pointer (some ⟨r, 0, none⟩))::(.pointer (some ⟨r, 0, none⟩))::(.pointer (some ⟨r, 0, none⟩))::(.slice (some ⟨b, o, none⟩) l.length c)::(.int .i64 (i : Int))::(.pointer (some ⟨b, o + i * 36, none⟩))::(.pointer (some ⟨b, o + i * 36 + 32, none⟩))::(.pointer (some ⟨b, o + i * 36 + 32 + 3, none⟩))::(.int .u32 x.2.mark)::(.int .u32 m)::(.bool false)::(.bool false)::(.pointer (some ⟨r, 0, none⟩))::(.pointer (some ⟨r, 0, none⟩))::(.pointer (some ⟨r, 0, none⟩))::(.slice (some ⟨b, o, none⟩) l.length c)::(.int .i64 (i : Int))::(.pointer (some ⟨b, o + i * 36, none⟩))::(.pointer (some ⟨b, o + i * 36 + 32, none⟩))::(.agg x.2.L.toArray)::undef::undef::undef::undef::undef::undef::[]), []⟩) (by kernel_rfl) rfl (by kernel_rfl) (by rw [hh8]; exact y_allocE rfl) ?_
      have b3 : Blk (w3.alloc (.cells e0.L.toArray 56)) h8 56 e0.L.toArray := by rw [hh8]; exact Blk.new _ _ _
      refine wl_entF (a' := ⟨List.toArray ((.pointer (some ⟨r, 0, none⟩))::(.agg k.L.toArray)::(.int .u32 m)::undef::(.pointer (some ⟨h0, 0, none⟩))::undef::(.bool false)::(.int .i64 (i : Int))::(.pointer (some ⟨h8, 0, none⟩))::(.pointer (some ⟨r, 0, none⟩))::(.agg k.L.toArray)::(.int .i64 (i : Int))::(.int .i64 (i : Int))::(.bool false)::(.bool false)::(.pointer (some ⟨r, 0, none⟩))::(.pointer (some ⟨r, 0, none⟩))::(.pointer (some ⟨r, 0, none⟩))::(.slice (some ⟨b, o, none⟩) l.length c)::(.int .i64 (i : Int))::(.pointer (some ⟨b, o + i * 36, none⟩))::(.pointer (some ⟨b, o + i * 36 + 32, none⟩))::(.pointer (some ⟨b, o + i * 36 + 32 + 3, none⟩))::(.int .u32 x.2.mark)::(.int .u32 m)::(.bool false)::(.bool false)::(.pointer (some ⟨r, 0, none⟩))::(.pointer (some ⟨r, 0, none⟩))::(.pointer (some ⟨r, 0, none⟩))::(.slice (some ⟨b, o, none⟩) l.length c)::(.int .i64 (i : Int))::(.pointer (some ⟨b, o + i * 36, none⟩))::(.pointer (some ⟨b, o + i * 36 + 32, none⟩))::(.agg x.2.L.toArray)::undef::undef::undef::undef::undef::undef::[]), []⟩) rfl h8 x.2 (by kernel_rfl) rfl (by kernel_rfl) rfl rfl b3 ?_
      have b4 : Blk ((w3.alloc (.cells e0.L.toArray 56)).setCells h8 0 x.2.L) h8 56 x.2.L.toArray := blk_sets h8 x.2.L 0 e0.L _ b3 (Nat.le_refl 4)
      have m34 : Mod no w3 ((w3.alloc (.cells e0.L.toArray 56)).setCells h8 0 x.2.L) := mod_setCells (fun c => by rw [hh8] at c; exact absurd c (Nat.lt_irrefl _)) _ _ _ ((Mod.refl no _).alloc _)
      obtain ⟨w4, hw4⟩ : ∃ w4, w4 = ((w3.alloc (.cells e0.L.toArray 56)).setCells h8 0 x.2.L) := ⟨_, rfl⟩
      change HD.WL _ _ _ _ ((w3.alloc (.cells e0.L.toArray 56)).setCells h8 0 x.2.L)
      rw [← hw4] at b4 m34 ⊢
      have hge : ∀ y, y < w.heap.size → y ≠ h8 := fun y hy c => by have := HH.out; omega
      have H4 := Lib.hid (And.intro b4 (And.intro (HF.out.2.1.and_then m34) (And.intro (HF.out.2.2.1.mod m34 (fun c => c)) (And.intro (HF.out.2.2.2.mod m34 (fun _ _ c => c)) (And.intro hge (show r ≠ h8 from fun c => by have := HF.out.2.2.1.lt; rw [c, hh8] at this; exact absurd this (Nat.lt_irrefl _)))))))
      have HO8 := Lib.hid hl8
      have HN8 := Lib.hid (show b ≠ h8 from fun c => by have := HBL.out; rw [c, hh8] at this; exact absurd this (Nat.lt_irrefl _))
      clear hw4 b3 b4 m34 hh8 hl8 hge
      refine HD.wl_done ?_
      have c3 : w4.cell? ⟨h8, 3, none⟩ = some (.int .u32 x.2.mark) := H4.out.1.cell 3
      have f3 := H4.out.1.free 3
      go_upto_region 6 with fail
      obtain ⟨w5, hw5⟩ : ∃ w5, w5 = (w4.setCell ⟨h8, 3, none⟩ (.int .u32 m)) := ⟨_, rfl⟩
      have m45 : Mod (one h8) w4 w5 := by rw [hw5]; exact Mod.set (S := one h8) (p := ⟨h8, 3, none⟩) (Mod.refl _ w4) (fun _ => rfl) _
      obtain ⟨e5, he5⟩ : ∃ e5 : Ent, e5 = { x.2 with mark := m } := ⟨_, rfl⟩
      have b5 : Blk w5 h8 56 e5.L.toArray := by rw [hw5, he5]; exact H4.out.1.put 3 _
      rw [← hw5]
      clear c3 f3
      have H5 := Lib.hid (show RAt w5 r (.slice (some ⟨b, o, none⟩) l.length c) l ∧ Blk w5 h8 56 e5.L.toArray ∧ Mod no w w5 from ⟨⟨H4.out.2.2.1.mod m45 (fun c => H4.out.2.2.2.2.2 c), H4.out.2.2.2.1.mod m45 (fun b' eb c => by injection eb with eb; exact HN8.out (eb.trans c))⟩, b5, H4.out.2.1.trans m45 (fun y hy c => H4.out.2.2.2.2.1 y hy c)⟩)
      have HV := Lib.hid he5
      clear m45 hw5 b5 he5
      refine HD.wl_begin ?_
      refine HD.wl_takeF (d := some 37) (v := (.pointer (some ⟨r, 0, none⟩))) (by kernel_rfl) rfl rfl (y_move rfl rfl) ?_
      refine HD.wl_takeF (d := some 38) (v := (.int .i64 (i : Int))) (by kernel_rfl) rfl rfl (y_move rfl rfl) ?_
      refine HD.wl_takeF (d := some 39) (v := (.agg e5.L.toArray)) (a' := ⟨List.toArray ((.pointer (some ⟨r, 0, none⟩))::(.agg k.L.toArray)::(.int .u32 m)::undef::(.pointer (some ⟨h0, 0, none⟩))::undef::(.bool false)::(.int .i64 (i : Int))::(.pointer (some ⟨h8, 0, none⟩))::(.pointer (some ⟨r, 0, none⟩))::(.agg k.L.toArray)::(.int .i64 (i : Int))::(.int .i64 (i : Int))::(.bool false)::(.bool false)::(.pointer (some ⟨r, 0, none⟩))::(.pointer (some ⟨r, 0, none⟩))::(.pointer (some ⟨r, 0, none⟩))::(.slice (some ⟨b, o, none⟩) l.length c)::(.int .i64 (i : Int))::(.pointer (some ⟨b, o + i * 36, none⟩))::(.pointer (some ⟨b, o + i * 36 + 32, none⟩))::(.pointer (some ⟨b, o + i * 36 + 32 + 3, none⟩))::(.int .u32 x.2.mark)::(.int .u32 m)::(.bool false)::(.bool false)::(.pointer (some ⟨r, 0, none⟩))::(.pointer (some ⟨r, 0, none⟩))::(.pointer (some ⟨r, 0, none⟩))::(.slice (some ⟨b, o, none⟩) l.length c)::(.int .i64 (i : Int))::(.pointer (some ⟨b, o + i * 36, none⟩))::(.pointer (some ⟨b, o + i * 36 + 32, none⟩))::(.agg x.2.L.toArray)::(.int .u32 m)::(.pointer (some ⟨h8, 3, none⟩))::(.pointer (some ⟨r, 0, none⟩))::(.int .i64 (i : Int))::(.agg e5.L.toArray)::undef::[]), []⟩) (by kernel_rfl) rfl (by kernel_rfl) (y_ent rfl rfl (blk_range H5.out.2.1)) ?_
      refine HD.wl_callF (d := some 40) (v := (.tuple #[])) (a' := ⟨List.toArray ((.pointer (some ⟨r, 0, none⟩))::(.agg k.L.toArray)::(.int .u32 m)::undef::(.pointer (some ⟨h0, 0, none⟩))::undef::(.bool false)::(.int .i64 (i : Int))::(.pointer (some ⟨h8, 0, none⟩))::(.pointer (some ⟨r, 0, none⟩))::(.agg k.L.toArray)::(.int .i64 (i : Int))::(.int .i64 (i : Int))::(.bool false)::(.bool false)::(.pointer (some ⟨r, 0, none⟩))::(.pointer (some ⟨r, 0, none⟩))::(.pointer (some ⟨r, 0, none⟩))::(.slice (some ⟨b, o, none⟩) l.length c)::(.int .i64 (i : Int))::(.pointer (some ⟨b, o + i * 36, none⟩))::(.pointer (some ⟨b, o + i * 36 + 32, none⟩))::(.pointer (some ⟨b, o + i * 36 + 32 + 3, none⟩))::(.int .u32 x.2.mark)::(.int .u32 m)::(.bool false)::(.bool false)::(.pointer (some ⟨r, 0, none⟩))::(.pointer (some ⟨r, 0, none⟩))::(.pointer (some ⟨r, 0, none⟩))::(.slice (some ⟨b, o, none⟩) l.length c)::(.int .i64 (i : Int))::(.pointer (some ⟨b, o + i * 36, none⟩))::(.pointer (some ⟨b, o + i * 36 + 32, none⟩))::(.agg x.2.L.toArray)::(.int .u32 m)::(.pointer (some ⟨h8, 3, none⟩))::(.pointer (some ⟨r, 0, none⟩))::(.int .i64 (i : Int))::(.agg e5.L.toArray)::(.tuple #[])::[]), []⟩) (by kernel_rfl) rfl (by kernel_rfl) fun K hK => ?_
      refine op_c3 (fun _ _ => rfl) rfl rfl rfl rfl (rwith_any H5.out.1 HA.out.2.2.2 i e5) ?_
      rintro en w6 ⟨rfl, hn6⟩
      rw [HC.out.2.2.2 e5] at hn6
      have H6 := Lib.hid (hn6.before H5.out.2.2)
      clear hn6
      refine ⟨_, rfl, hK _ ?_⟩
      clear hK K
      refine HD.wl_done ?_
      go_wp2_with fail
      go_ret
      refine ⟨some x.2, HC.out.2.2.1, ?_⟩
      have e1 : (some x.2).bind (marked m) = some e5 := by show marked m x.2 = some e5; unfold marked; rw [if_neg HE.out, HV.out]
      rw [e1]
      exact ⟨rfl, H6.out⟩
set_option maxRecDepth 100000 in
set_option maxHeartbeats 4000000 in
theorem rmove_any {w : World} {r : Nat} {v : Value} {l : List (Key × Ent)} (h : RAt w r v l) (hn : NK l) (hl : l.length ≤ 2097152) (k : Key) (s u s' u' : Int) : Calls Try.prog 71 #[.pointer (some ⟨r, 0, none⟩), .agg k.L.toArray, .agg #[.int .i64 s, .int .i64 u], .agg #[.int .i64 s', .int .i64 u']] w fun en w' => RTurned w w' r l k (moved s u s' u') en := by
  have hw := w3_facts w k s u s' u'
  have HA := Lib.hid (And.intro (show RAt (W3 w k s u s' u') r v l from ⟨h.1.mod hw.1 (fun c => c), h.2.mod hw.1 (fun _ _ c => c)⟩) (And.intro hw (And.intro hn hl)))
  clear h hw hn hl
  go_enter Try.func71, Try.ntmps71
  go_upto_region 1 with fail
  obtain ⟨w2, hw2⟩ : ∃ w2, w2 = W3 w k s u s' u' := ⟨_, rfl⟩
  change Code.wp _ _ _ _ (W3 w k s u s' u')
  rw [← hw2] at HA ⊢
  clear hw2
  obtain ⟨h0, hh0⟩ : ∃ h0, h0 = w.heap.size := ⟨_, rfl⟩
  have HH := Lib.hid (Nat.le_of_eq hh0.symm)
  rw [← hh0] at HA ⊢
  clear hh0
  refine HD.wl_begin ?_
  refine HD.wl_takeF (d := some 11) (v := (.pointer (some ⟨r, 0, none⟩))) (by kernel_rfl) rfl rfl (y_move rfl rfl) ?_
  refine HD.wl_takeF (d := some 12) (v := (.agg k.L.toArray)) (a' := ⟨List.toArray ((.pointer (some ⟨r, 0, none⟩))::(.agg k.L.toArray)::(.agg #[.int .i64 s, .int .i64 u])::(.agg #[.int .i64 s', .int .i64 u'])::undef::(.pointer (some ⟨h0, 0, none⟩))::(.pointer (some ⟨(h0 + 1), 0, none⟩))::(.pointer (some ⟨(h0 + 2), 0, none⟩))::(.bool false)::undef::undef::(.pointer (some ⟨r, 0, none⟩))::(.agg k.L.toArray)::undef::undef::undef::undef::undef::undef::undef::undef::undef::undef::undef::undef::undef::undef::undef::undef::undef::undef::undef::undef::undef::undef::undef::undef::undef::undef::undef::undef::undef::undef::[]), []⟩) (by kernel_rfl) rfl (by kernel_rfl) (y_key rfl rfl HA.out.2.1.2.1) ?_
  refine HD.wl_callG (d := some 13) (fun v9 => ⟨List.toArray ((.pointer (some ⟨r, 0, none⟩))::(.agg k.L.toArray)::(.agg #[.int .i64 s, .int .i64 u])::(.agg #[.int .i64 s', .int .i64 u'])::undef::(.pointer (some ⟨h0, 0, none⟩))::(.pointer (some ⟨(h0 + 1), 0, none⟩))::(.pointer (some ⟨(h0 + 2), 0, none⟩))::(.bool false)::undef::undef::(.pointer (some ⟨r, 0, none⟩))::(.agg k.L.toArray)::(v9)::undef::undef::undef::undef::undef::undef::undef::undef::undef::undef::undef::undef::undef::undef::undef::undef::undef::undef::undef::undef::undef::undef::undef::undef::undef::undef::undef::undef::undef::[]), []⟩) (by kernel_rfl) rfl (fun _ => by kernel_rfl) fun K hK => ?_
  refine op_c2 (fun _ _ => rfl) rfl rfl rfl (rfind_any HA.out.1 HA.out.2.2.2 k) ?_
  rintro e w3 ⟨q, rfl, hat, hm3⟩
  have HF3 := Lib.hid hm3
  have HF := Lib.hid (And.intro hat (And.intro (HA.out.2.1.1.and_then hm3) (And.intro (HA.out.1.1.mod hm3 (fun c => c)) (HA.out.1.2.mod hm3 (fun _ _ c => c)))))
  have HQ := Lib.hid (And.intro (range_mod HA.out.2.1.2.2.1 hm3 (fun c => c)) (range_mod HA.out.2.1.2.2.2 hm3 (fun c => c)))
  refine ⟨_, rfl, hK _ _ ?_⟩
  clear hK K hat hm3
  refine HD.wl_takeF (d := some 9) (v := (.int .i64 (atV q))) (a' := ⟨List.toArray ((.pointer (some ⟨r, 0, none⟩))::(.agg k.L.toArray)::(.agg #[.int .i64 s, .int .i64 u])::(.agg #[.int .i64 s', .int .i64 u'])::undef::(.pointer (some ⟨h0, 0, none⟩))::(.pointer (some ⟨(h0 + 1), 0, none⟩))::(.pointer (some ⟨(h0 + 2), 0, none⟩))::(.bool false)::(.int .i64 (atV q))::undef::(.pointer (some ⟨r, 0, none⟩))::(.agg k.L.toArray)::(.int .i64 (atV q))::undef::undef::undef::undef::undef::undef::undef::undef::undef::undef::undef::undef::undef::undef::undef::undef::undef::undef::undef::undef::undef::undef::undef::undef::undef::undef::undef::undef::undef::[]), []⟩) (by kernel_rfl) rfl (by kernel_rfl) (y_assign rfl rfl) ?_
  refine HD.wl_done ?_
  cases q with
  | none =>
    have d1 : decide ((-1 : Int) < 0) = true := by decide
    go_upto_region 2 with fail
    refine wp_region_held_drew (S := fun _ => True) (by kernel_rfl) trivial (fun hHeld => ?_)
    refine takeD (i := 0) (d := some 14) (v := (.int .i64 (-1))) rfl (by kernel_rfl) (by kernel_rfl) (by kernel_rfl) rfl (fun _ _ _ h => h) (Or.inl ⟨by kernel_rfl, fun w9 hw => y_move rfl rfl⟩) hHeld ?_
    simp only [Act.put, List.setIfInBounds_toArray, List.set_cons_zero, List.set_cons_succ]
    refine takeD (i := 1) (d := some 15) (v := (.bool true)) rfl (by kernel_rfl) (by kernel_rfl) (by kernel_rfl) rfl (fun _ _ _ h => h) (Or.inl ⟨by kernel_rfl, fun w9 hw => y_lss0 d1 rfl rfl⟩) hHeld ?_
    simp only [Act.put, List.setIfInBounds_toArray, List.set_cons_zero, List.set_cons_succ]
    refine takeD (i := 2) (d := some 16) (v := (.bool true)) rfl (by kernel_rfl) (by kernel_rfl) (by kernel_rfl) rfl (fun _ _ _ h => h) (Or.inl ⟨by kernel_rfl, fun w9 hw => y_move rfl rfl⟩) hHeld ?_
    simp only [Act.put, List.setIfInBounds_toArray, List.set_cons_zero, List.set_cons_succ]
    refine takeD (i := 3) (d := some 17) (v := undef) rfl (by kernel_rfl) (by kernel_rfl) (by kernel_rfl) rfl (fun _ _ _ h => h) (Or.inr ⟨by kernel_rfl, rfl⟩) hHeld ?_
    simp only [Act.put, List.setIfInBounds_toArray, List.set_cons_zero, List.set_cons_succ]
    refine takeD (i := 4) (d := some 18) (v := undef) rfl (by kernel_rfl) (by kernel_rfl) (by kernel_rfl) rfl (fun _ _ _ h => h) (Or.inr ⟨by kernel_rfl, rfl⟩) hHeld ?_
    simp only [Act.put, List.setIfInBounds_toArray, List.set_cons_zero, List.set_cons_succ]
    refine takeD (i := 5) (d := some 19) (v := undef) rfl (by kernel_rfl) (by kernel_rfl) (by kernel_rfl) rfl (fun _ _ _ h => h) (Or.inr ⟨by kernel_rfl, rfl⟩) hHeld ?_
    simp only [Act.put, List.setIfInBounds_toArray, List.set_cons_zero, List.set_cons_succ]
    refine takeD (i := 6) (d := some 20) (v := undef) rfl (by kernel_rfl) (by kernel_rfl) (by kernel_rfl) rfl (fun _ _ _ h => h) (Or.inr ⟨by kernel_rfl, rfl⟩) hHeld ?_
    simp only [Act.put, List.setIfInBounds_toArray, List.set_cons_zero, List.set_cons_succ]
    refine takeD (i := 7) (d := some 21) (v := undef) rfl (by kernel_rfl) (by kernel_rfl) (by kernel_rfl) rfl (fun _ _ _ h => h) (Or.inr ⟨by kernel_rfl, rfl⟩) hHeld ?_
    simp only [Act.put, List.setIfInBounds_toArray, List.set_cons_zero, List.set_cons_succ]
    refine takeD (i := 8) (d := some 22) (v := undef) rfl (by kernel_rfl) (by kernel_rfl) (by kernel_rfl) rfl (fun _ _ _ h => h) (Or.inr ⟨by kernel_rfl, rfl⟩) hHeld ?_
    simp only [Act.put, List.setIfInBounds_toArray, List.set_cons_zero, List.set_cons_succ]
    refine takeD (i := 9) (d := some 23) (v := undef) rfl (by kernel_rfl) (by kernel_rfl) (by kernel_rfl) rfl (fun _ _ _ h => h) (Or.inr ⟨by kernel_rfl, rfl⟩) hHeld ?_
    simp only [Act.put, List.setIfInBounds_toArray, List.set_cons_zero, List.set_cons_succ]
    refine takeD (i := 10) (d := some 24) (v := undef) rfl (by kernel_rfl) (by kernel_rfl) (by kernel_rfl) rfl (fun _ _ _ h => h) (Or.inr ⟨by kernel_rfl, rfl⟩) hHeld ?_
    simp only [Act.put, List.setIfInBounds_toArray, List.set_cons_zero, List.set_cons_succ]
    refine takeD (i := 11) (d := some 25) (v := undef) rfl (by kernel_rfl) (by kernel_rfl) (by kernel_rfl) rfl (fun _ _ _ h => h) (Or.inr ⟨by kernel_rfl, rfl⟩) hHeld ?_
    simp only [Act.put, List.setIfInBounds_toArray, List.set_cons_zero, List.set_cons_succ]
    refine takeD (i := 12) (d := some 26) (v := undef) rfl (by kernel_rfl) (by kernel_rfl) (by kernel_rfl) rfl (fun _ _ _ h => h) (Or.inr ⟨by kernel_rfl, rfl⟩) hHeld ?_
    simp only [Act.put, List.setIfInBounds_toArray, List.set_cons_zero, List.set_cons_succ]
    refine takeD (i := 13) (d := some 27) (v := undef) rfl (by kernel_rfl) (by kernel_rfl) (by kernel_rfl) rfl (fun _ _ _ h => h) (Or.inr ⟨by kernel_rfl, rfl⟩) hHeld ?_
    simp only [Act.put, List.setIfInBounds_toArray, List.set_cons_zero, List.set_cons_succ]
    refine takeD (i := 14) (d := some 28) (v := (.bool true)) rfl (by kernel_rfl) (by kernel_rfl) (by kernel_rfl) rfl (fun _ _ _ h => h) (Or.inl ⟨by kernel_rfl, fun w9 hw => y_pick' (b := true) rfl rfl rfl⟩) hHeld ?_
    simp only [Act.put, List.setIfInBounds_toArray, List.set_cons_zero, List.set_cons_succ]
    refine wpAnyH_done (by kernel_rfl) ?_ _
    go_wp2_with fail
    go_ret
    exact ⟨none, TB.Found.no fun e c => HF.out.1 (k, e) c rfl, rfl, HF.out.2.1.drew⟩
  | some i =>
    obtain ⟨x, hx, hxk⟩ := HF.out.1
    have hi := (List.getElem?_eq_some_iff.1 hx).1
    have d1 : decide ((i : Int) < 0) = false := decide_eq_false (by omega)
    obtain ⟨A, c, rfl, hrd⟩ := HF.out.2.2.2
    obtain ⟨b, o, rfl, hr⟩ := hrd i x hx
    have hfd : TB.Found l k (some x.2) := TB.Found.yes HA.out.2.2.1 (by have := List.mem_of_getElem? hx; rw [← hxk]; exact this)
    have hmt : ∀ e, l.modify i (fun y => (y.1, e)) = turn l k e := fun e => modify_turn HA.out.2.2.1 hx hxk
    have HC := Lib.hid (And.intro hi (And.intro (pair_key hr).2 (And.intro hfd hmt)))
    clear hr hrd hi hfd hmt
    by_cases he : x.2.seg = s ∧ x.2.off = u
    · have HE := Lib.hid he
      have hd : decide (x.2.seg = s ∧ x.2.off = u) = true := decide_eq_true he
      clear he
      go_upto_region 2 with fail
      refine wp_region_held_drew (S := fun w9 => Blk w9 r 79 #[.slice (some ⟨b, o, none⟩) l.length c] ∧ w9.rangeAt b (o + i * 36 + 32) x.2.L ∧ w9.rangeAt (h0 + 1) 0 [.int .i64 s, .int .i64 u]) (by kernel_rfl) ⟨HF.out.2.2.1.drew, HC.out.2.1, HQ.out.1⟩ (fun hHeld => ?_)
      refine takeD (i := 0) (d := some 14) (v := (.int .i64 (i : Int))) rfl (by kernel_rfl) (by kernel_rfl) (by kernel_rfl) rfl (fun _ _ _ h => h) (Or.inl ⟨by kernel_rfl, fun w9 hw => y_move rfl rfl⟩) hHeld ?_
      simp only [Act.put, List.setIfInBounds_toArray, List.set_cons_zero, List.set_cons_succ]
      refine takeD (i := 1) (d := some 15) (v := (.bool false)) rfl (by kernel_rfl) (by kernel_rfl) (by kernel_rfl) rfl (fun _ _ _ h => h) (Or.inl ⟨by kernel_rfl, fun w9 hw => y_lss0 d1 rfl rfl⟩) hHeld ?_
      simp only [Act.put, List.setIfInBounds_toArray, List.set_cons_zero, List.set_cons_succ]
      refine takeD (i := 2) (d := some 16) (v := (.bool false)) rfl (by kernel_rfl) (by kernel_rfl) (by kernel_rfl) rfl (fun _ _ _ h => h) (Or.inl ⟨by kernel_rfl, fun w9 hw => y_move rfl rfl⟩) hHeld ?_
      simp only [Act.put, List.setIfInBounds_toArray, List.set_cons_zero, List.set_cons_succ]
      refine takeD (i := 3) (d := some 17) (v := (.pointer (some ⟨r, 0, none⟩))) rfl (by kernel_rfl) (by kernel_rfl) (by kernel_rfl) rfl (fun _ _ _ h => h) (Or.inl ⟨by kernel_rfl, fun w9 hw => y_move rfl rfl⟩) hHeld ?_
      simp only [Act.put, List.setIfInBounds_toArray, List.set_cons_zero, List.set_cons_succ]
      refine takeD (i := 4) (d := some 18) (v := (.pointer (some ⟨r, 0, none⟩))) rfl (by kernel_rfl) (by kernel_rfl) (by kernel_rfl) rfl (fun _ _ _ h => h) (Or.inl ⟨by kernel_rfl, fun w9 hw => y_nil rfl rfl⟩) hHeld ?_
      simp only [Act.put, List.setIfInBounds_toArray, List.set_cons_zero, List.set_cons_succ]
      refine takeD (i := 5) (d := some 19) (v := (.pointer (some ⟨r, 0, none⟩))) rfl (by kernel_rfl) (by kernel_rfl) (by kernel_rfl) rfl (fun _ _ _ h => h) (Or.inl ⟨by kernel_rfl, fun w9 hw => y_fri rfl rfl⟩) hHeld ?_
      simp only [Act.put, List.setIfInBounds_toArray, List.set_cons_zero, List.set_cons_succ]
      refine takeD (i := 6) (d := some 20) (v := (.slice (some ⟨b, o, none⟩) l.length c)) rfl (by kernel_rfl) (by kernel_rfl) (by kernel_rfl) rfl (fun _ _ _ h => h) (Or.inl ⟨by kernel_rfl, fun w9 hw => y_ldkv rfl rfl (hw.1.cell 0)⟩) hHeld ?_
      simp only [Act.put, List.setIfInBounds_toArray, List.set_cons_zero, List.set_cons_succ]
      refine takeD (i := 7) (d := some 21) (v := (.int .i64 (i : Int))) rfl (by kernel_rfl) (by kernel_rfl) (by kernel_rfl) rfl (fun _ _ _ h => h) (Or.inl ⟨by kernel_rfl, fun w9 hw => y_move rfl rfl⟩) hHeld ?_
      simp only [Act.put, List.setIfInBounds_toArray, List.set_cons_zero, List.set_cons_succ]
      refine takeD (i := 8) (d := some 22) (v := (.pointer (some ⟨b, o + i * 36, none⟩))) rfl (by kernel_rfl) (by kernel_rfl) (by kernel_rfl) rfl (fun _ _ _ h => h) (Or.inl ⟨by kernel_rfl, fun w9 hw => y_ixkv rfl rfl rfl HC.out.1⟩) hHeld ?_
      simp only [Act.put, List.setIfInBounds_toArray, List.set_cons_zero, List.set_cons_succ]
      refine takeD (i := 9) (d := some 23) (v := (.pointer (some ⟨b, o + i * 36 + 32, none⟩))) rfl (by kernel_rfl) (by kernel_rfl) (by kernel_rfl) rfl (fun _ _ _ h => h) (Or.inl ⟨by kernel_rfl, fun w9 hw => y_fk1 rfl rfl⟩) hHeld ?_
      simp only [Act.put, List.setIfInBounds_toArray, List.set_cons_zero, List.set_cons_succ]
      refine takeD (i := 10) (d := some 24) (v := (.pointer (some ⟨b, o + i * 36 + 32, none⟩))) rfl (by kernel_rfl) (by kernel_rfl) (by kernel_rfl) rfl (fun _ _ _ h => h) (Or.inl ⟨by kernel_rfl, fun w9 hw => y_fe0' rfl rfl⟩) hHeld ?_
      simp only [Act.put, List.setIfInBounds_toArray, List.set_cons_zero, List.set_cons_succ]
      refine takeD (i := 11) (d := some 25) (v := (.agg #[.int .i64 x.2.seg, .int .i64 x.2.off])) rfl (by kernel_rfl) (by kernel_rfl) (by kernel_rfl) rfl (fun _ _ _ h => h) (Or.inl ⟨by kernel_rfl, fun w9 hw => y_place rfl rfl (fun j v hv => hw.2.1 j v (by match j, hv with | 0, hv => exact hv | 1, hv => exact hv))⟩) hHeld ?_
      simp only [Act.put, List.setIfInBounds_toArray, List.set_cons_zero, List.set_cons_succ]
      refine takeD (i := 12) (d := some 26) (v := (.agg #[.int .i64 s, .int .i64 u])) rfl (by kernel_rfl) (by kernel_rfl) (by kernel_rfl) rfl (fun _ _ _ h => h) (Or.inl ⟨by kernel_rfl, fun w9 hw => y_place rfl rfl hw.2.2⟩) hHeld ?_
      simp only [Act.put, List.setIfInBounds_toArray, List.set_cons_zero, List.set_cons_succ]
      refine takeD (i := 13) (d := some 27) (v := (.bool false)) rfl (by kernel_rfl) (by kernel_rfl) (by kernel_rfl) rfl (fun _ _ _ h => h) (Or.inl ⟨by kernel_rfl, fun w9 hw => y_neqP (d := true) hd rfl rfl rfl⟩) hHeld ?_
      simp only [Act.put, List.setIfInBounds_toArray, List.set_cons_zero, List.set_cons_succ]
      refine takeD (i := 14) (d := some 28) (v := (.bool false)) rfl (by kernel_rfl) (by kernel_rfl) (by kernel_rfl) rfl (fun _ _ _ h => h) (Or.inl ⟨by kernel_rfl, fun w9 hw => y_pick' (b := false) rfl rfl rfl⟩) hHeld ?_
      simp only [Act.put, List.setIfInBounds_toArray, List.set_cons_zero, List.set_cons_succ]
      refine wpAnyH_done (by kernel_rfl) ?_ _
      go_upto_region 4 with fail
      have HLT := Lib.hid (show h0 + 2 < w3.drew.heap.size from by have := cell_below ((show w3.drew.rangeAt (h0 + 2) 0 _ from HQ.out.2) 0 _ rfl); simpa using this)
      have HBL := Lib.hid (show b < w3.drew.heap.size from by have := cell_below (HC.out.2.1 0 _ rfl); simpa using this)
      refine HD.wl_begin ?_
      refine HD.wl_takeF (d := some 29) (v := (.pointer (some ⟨r, 0, none⟩))) (by kernel_rfl) rfl rfl (y_move rfl rfl) ?_
      refine HD.wl_takeF (d := some 30) (v := (.pointer (some ⟨r, 0, none⟩))) (by kernel_rfl) rfl rfl (y_nil rfl rfl) ?_
      refine HD.wl_takeF (d := some 31) (v := (.pointer (some ⟨r, 0, none⟩))) (a' := ⟨List.toArray ((.pointer (some ⟨r, 0, none⟩))::(.agg k.L.toArray)::(.agg #[.int .i64 s, .int .i64 u])::(.agg #[.int .i64 s', .int .i64 u'])::undef::(.pointer (some ⟨h0, 0, none⟩))::(.pointer (some ⟨(h0 + 1), 0, none⟩))::(.pointer (some ⟨(h0 + 2), 0, none⟩))::(.bool false)::(.int .i64 (i : Int))::undef::(.pointer (some ⟨r, 0, none⟩))::(.agg k.L.toArray)::(.int .i64 (i : Int))::(.int .i64 (i : Int))::(.bool false)::(.bool false)::(.pointer (some ⟨r, 0, none⟩))::(.pointer (some ⟨r, 0, none⟩))::(.pointer (some ⟨r, 0, none⟩))::(.slice (some ⟨b, o, none⟩) l.length c)::(.int .i64 (i : Int))::(.pointer (some ⟨b, o + i * 36, none⟩))::(.pointer (some ⟨b, o + i * 36 + 32, none⟩))::(.pointer (some ⟨b, o + i * 36 + 32, none⟩))::(.agg #[.int .i64 x.2.seg, .int .i64 x.2.off])::(.agg #[.int .i64 s, .int .i64 u])::(.bool false)::(.bool false)::(.pointer (some ⟨r, 0, none⟩))::(.pointer (some ⟨r, 0, none⟩))::(.pointer (some ⟨r, 0, none⟩))::undef::undef::undef::undef::undef::undef::undef::undef::undef::undef::undef::[]), []⟩) (by kernel_rfl) rfl (by kernel_rfl) (y_fri rfl rfl) ?_
      refine HD.wl_takeF (d := some 32) (v := (.slice (some ⟨b, o, none⟩) l.length c)) (by kernel_rfl) rfl rfl (y_ldkv rfl rfl (HF.out.2.2.1.drew.cell 0)) ?_
      refine HD.wl_takeF (d := some 33) (v := (.int .i64 (i : Int))) (by kernel_rfl) rfl rfl (y_move rfl rfl) ?_
      refine HD.wl_takeF (d := some 34) (v := (.pointer (some ⟨b, o + i * 36, none⟩))) (a' := ⟨List.toArray ((.pointer (some ⟨r, 0, none⟩))::(.agg k.L.toArray)::(.agg #[.int .i64 s, .int .i64 u])::(.agg #[.int .i64 s', .int .i64 u'])::undef::(.pointer (some ⟨h0, 0, none⟩))::(.pointer (some ⟨(h0 + 1), 0, none⟩))::(.pointer (some ⟨(h0 + 2), 0, none⟩))::(.bool false)::(.int .i64 (i : Int))::undef::(.pointer (some ⟨r, 0, none⟩))::(.agg k.L.toArray)::(.int .i64 (i : Int))::(.int .i64 (i : Int))::(.bool false)::(.bool false)::(.pointer (some ⟨r, 0, none⟩))::(.pointer (some ⟨r, 0, none⟩))::(.pointer (some ⟨r, 0, none⟩))::(.slice (some ⟨b, o, none⟩) l.length c)::(.int .i64 (i : Int))::(.pointer (some ⟨b, o + i * 36, none⟩))::(.pointer (some ⟨b, o + i * 36 + 32, none⟩))::(.pointer (some ⟨b, o + i * 36 + 32, none⟩))::(.agg #[.int .i64 x.2.seg, .int .i64 x.2.off])::(.agg #[.int .i64 s, .int .i64 u])::(.bool false)::(.bool false)::(.pointer (some ⟨r, 0, none⟩))::(.pointer (some ⟨r, 0, none⟩))::(.pointer (some ⟨r, 0, none⟩))::(.slice (some ⟨b, o, none⟩) l.length c)::(.int .i64 (i : Int))::(.pointer (some ⟨b, o + i * 36, none⟩))::undef::undef::undef::undef::undef::undef::undef::undef::[]), []⟩) (by kernel_rfl) rfl (by kernel_rfl) (y_ixkv rfl rfl rfl HC.out.1) ?_
      refine HD.wl_takeF (d := some 35) (v := (.pointer (some ⟨b, o + i * 36 + 32, none⟩))) (by kernel_rfl) rfl rfl (y_fk1 rfl rfl) ?_
      refine HD.wl_takeF (d := some 36) (v := (.agg x.2.L.toArray)) (a' := ⟨List.toArray ((.pointer (some ⟨r, 0, none⟩))::(.agg k.L.toArray)::(.agg #[.int .i64 s, .int .i64 u])::(.agg #[.int .i64 s', .int .i64 u'])::undef::(.pointer (some ⟨h0, 0, none⟩))::(.pointer (some ⟨(h0 + 1), 0, none⟩))::(.pointer (some ⟨(h0 + 2), 0, none⟩))::(.bool false)::(.int .i64 (i : Int))::undef::(.pointer (some ⟨r, 0, none⟩))::(.agg k.L.toArray)::(.int .i64 (i : Int))::(.int .i64 (i : Int))::(.bool false)::(.bool false)::(.pointer (some ⟨r, 0, none⟩))::(.pointer (some ⟨r, 0, none⟩))::(.pointer (some ⟨r, 0, none⟩))::(.slice (some ⟨b, o, none⟩) l.length c)::(.int .i64 (i : Int))::(.pointer (some ⟨b, o + i * 36, none⟩))::(.pointer (some ⟨b, o + i * 36 + 32, none⟩))::(.pointer (some ⟨b, o + i * 36 + 32, none⟩))::(.agg #[.int .i64 x.2.seg, .int .i64 x.2.off])::(.agg #[.int .i64 s, .int .i64 u])::(.bool false)::(.bool false)::(.pointer (some ⟨r, 0, none⟩))::(.pointer (some ⟨r, 0, none⟩))::(.pointer (some ⟨r, 0, none⟩))::(.slice (some ⟨b, o, none⟩) l.length c)::(.int .i64 (i : Int))::(.pointer (some ⟨b, o + i * 36, none⟩))::(.pointer (some ⟨b, o + i * 36 + 32, none⟩))::(.agg x.2.L.toArray)::undef::undef::undef::undef::undef::undef::[]), []⟩) (by kernel_rfl) rfl (by kernel_rfl) (y_ent rfl rfl HC.out.2.1) ?_
      obtain ⟨h8, hh8⟩ : ∃ h8, h8 = w3.drew.heap.size := ⟨_, rfl⟩
      have hl8 : h0 + 2 < h8 := by rw [hh8]; exact HLT.out
      refine HD.wl_takeF (d := some 10) (v := (.pointer (some ⟨h8, 0, none⟩))) (a' := ⟨List.toArray ((.pointer (some ⟨r, 0, none⟩))::(.agg k.L.toArray)::(.agg #[.int .i64 s, .int .i64 u])::(.agg #[.int .i64 s', .int .i64 u'])::undef::(.pointer (some ⟨h0, 0, none⟩))::(.pointer (some ⟨(h0 + 1), 0, none⟩))::(.pointer (some ⟨(h0 + 2), 0, none⟩))::(.bool false)::(.int .i64 (i : Int))::(.pointer (some ⟨h8, 0, none⟩))::(.pointer (some ⟨r, 0, none⟩))::(.agg k.L.toArray)::(.int .i64 (i : Int))::(.int .i64 (i : Int))::(.bool false)::(.bool false)::(.pointer (some ⟨r, 0, none⟩))::(.pointer (some ⟨r, 0, none⟩))::(.pointer (some ⟨r, 0, none⟩))::(.slice (some ⟨b, o, none⟩) l.length c)::(.int .i64 (i : Int))::(.pointer (some ⟨b, o + i * 36, none⟩))::(.pointer (some ⟨b, o + i * 36 + 32, none⟩))::(.pointer (some ⟨b, o + i * 36 + 32, none⟩))::(.agg #[.int .i64 x.2.seg, .int .i64 x.2.off])::(.agg #[.int .i64 s, .int .i64 u])::(.bool false)::(.bool false)::(.pointer (some ⟨r, 0, none⟩))::(.pointer (some ⟨r, 0, none⟩))::(.pointer (some ⟨r, 0, none⟩))::(.slice (some ⟨b, o, none⟩) l.length c)::(.int .i64 (i : Int))::(.pointer (some ⟨b, o + i * 36, none⟩))::(.pointer (some ⟨b, o + i * 36 + 32, none⟩))::(.agg x.2.L.toArray)::undef::undef::undef::undef::undef::undef::[]), []⟩) (by kernel_rfl) rfl (by kernel_rfl) (by rw [hh8]; exact y_allocE rfl) ?_
      have b3 : Blk (w3.drew.alloc (.cells e0.L.toArray 56)) h8 56 e0.L.toArray := by rw [hh8]; exact Blk.new _ _ _
      refine wl_entF (a' := ⟨List.toArray ((.pointer (some ⟨r, 0, none⟩))::(.agg k.L.toArray)::(.agg #[.int .i64 s, .int .i64 u])::(.agg #[.int .i64 s', .int .i64 u'])::undef::(.pointer (some ⟨h0, 0, none⟩))::(.pointer (some ⟨(h0 + 1), 0, none⟩))::(.pointer (some ⟨(h0 + 2), 0, none⟩))::(.bool false)::(.int .i64 (i : Int))::(.pointer (some ⟨h8, 0, none⟩))::(.pointer (some ⟨r, 0, none⟩))::(.agg k.L.toArray)::(.int .i64 (i : Int))::(.int .i64 (i : Int))::(.bool false)::(.bool false)::(.pointer (some ⟨r, 0, none⟩))::(.pointer (some ⟨r, 0, none⟩))::(.pointer (some ⟨r, 0, none⟩))::(.slice (some ⟨b, o, none⟩) l.length c)::(.int .i64 (i : Int))::(.pointer (some ⟨b, o + i * 36, none⟩))::(.pointer (some ⟨b, o + i * 36 + 32, none⟩))::(.pointer (some ⟨b, o + i * 36 + 32, none⟩))::(.agg #[.int .i64 x.2.seg, .int .i64 x.2.off])::(.agg #[.int .i64 s, .int .i64 u])::(.bool false)::(.bool false)::(.pointer (some ⟨r, 0, none⟩))::(.pointer (some ⟨r, 0, none⟩))::(.pointer (some ⟨r, 0, none⟩))::(.slice (some ⟨b, o, none⟩) l.length c)::(.int .i64 (i : Int))::(.pointer (some ⟨b, o + i * 36, none⟩))::(.pointer (some ⟨b, o + i * 36 + 32, none⟩))::(.agg x.2.L.toArray)::undef::undef::undef::undef::undef::undef::[]), []⟩) rfl h8 x.2 (by kernel_rfl) rfl (by kernel_rfl) rfl rfl b3 ?_
      have b4 : Blk ((w3.drew.alloc (.cells e0.L.toArray 56)).setCells h8 0 x.2.L) h8 56 x.2.L.toArray := blk_sets h8 x.2.L 0 e0.L _ b3 (Nat.le_refl 4)
      have m34 : Mod no w3.drew ((w3.drew.alloc (.cells e0.L.toArray 56)).setCells h8 0 x.2.L) := mod_setCells (fun c => by rw [hh8] at c; exact absurd c (Nat.lt_irrefl _)) _ _ _ ((Mod.refl no _).alloc _)
      obtain ⟨w4, hw4⟩ : ∃ w4, w4 = ((w3.drew.alloc (.cells e0.L.toArray 56)).setCells h8 0 x.2.L) := ⟨_, rfl⟩
      change HD.WL _ _ _ _ ((w3.drew.alloc (.cells e0.L.toArray 56)).setCells h8 0 x.2.L)
      rw [← hw4] at b4 m34 ⊢
      have hge : ∀ y, y < w.heap.size → y ≠ h8 := fun y hy c => by have := HH.out; omega
      have H4 := Lib.hid (And.intro b4 (And.intro (HF.out.2.1.and_then ((Mod.refl no w3).drew.and_then m34)) (And.intro (HF.out.2.2.1.mod ((Mod.refl no w3).drew.and_then m34) (fun c => c)) (And.intro (HF.out.2.2.2.mod ((Mod.refl no w3).drew.and_then m34) (fun _ _ c => c)) (And.intro hge (show r ≠ h8 from fun c => by have := HF.out.2.2.1.lt; rw [c, hh8] at this; exact absurd this (Nat.lt_irrefl _)))))))
      have HO8 := Lib.hid hl8
      have HQ4 := Lib.hid (range_mod HQ.out.2 ((Mod.refl no w3).drew.and_then m34) (fun c => c))
      have HN8 := Lib.hid (show b ≠ h8 from fun c => by have := HBL.out; rw [c, hh8] at this; exact absurd this (Nat.lt_irrefl _))
      clear hw4 b3 b4 m34 hh8 hl8 hge
      refine HD.wl_done ?_
      go_upto_region 5 with fail
      refine HD.wl_begin ?_
      refine HD.wl_takeF (d := some 37) (v := (.agg #[.int .i64 s', .int .i64 u'])) (by kernel_rfl) rfl rfl (y_place rfl rfl HQ4.out) ?_
      refine HD.wl_takeF (d := some 38) (v := (.pointer (some ⟨h8, 0, none⟩))) (a' := ⟨List.toArray ((.pointer (some ⟨r, 0, none⟩))::(.agg k.L.toArray)::(.agg #[.int .i64 s, .int .i64 u])::(.agg #[.int .i64 s', .int .i64 u'])::undef::(.pointer (some ⟨h0, 0, none⟩))::(.pointer (some ⟨(h0 + 1), 0, none⟩))::(.pointer (some ⟨(h0 + 2), 0, none⟩))::(.bool false)::(.int .i64 (i : Int))::(.pointer (some ⟨h8, 0, none⟩))::(.pointer (some ⟨r, 0, none⟩))::(.agg k.L.toArray)::(.int .i64 (i : Int))::(.int .i64 (i : Int))::(.bool false)::(.bool false)::(.pointer (some ⟨r, 0, none⟩))::(.pointer (some ⟨r, 0, none⟩))::(.pointer (some ⟨r, 0, none⟩))::(.slice (some ⟨b, o, none⟩) l.length c)::(.int .i64 (i : Int))::(.pointer (some ⟨b, o + i * 36, none⟩))::(.pointer (some ⟨b, o + i * 36 + 32, none⟩))::(.pointer (some ⟨b, o + i * 36 + 32, none⟩))::(.agg #[.int .i64 x.2.seg, .int .i64 x.2.off])::(.agg #[.int .i64 s, .int .i64 u])::(.bool false)::(.bool false)::(.pointer (some ⟨r, 0, none⟩))::(.pointer (some ⟨r, 0, none⟩))::(.pointer (some ⟨r, 0, none⟩))::(.slice (some ⟨b, o, none⟩) l.length c)::(.int .i64 (i : Int))::(.pointer (some ⟨b, o + i * 36, none⟩))::(.pointer (some ⟨b, o + i * 36 + 32, none⟩))::(.agg x.2.L.toArray)::(.agg #[.int .i64 s', .int .i64 u'])::(.pointer (some ⟨h8, 0, none⟩))::undef::undef::undef::undef::[]), []⟩) (by kernel_rfl) rfl (by kernel_rfl) (y_fe0' rfl rfl) ?_
      refine HD.wl_storeF (a' := ⟨List.toArray ((.pointer (some ⟨r, 0, none⟩))::(.agg k.L.toArray)::(.agg #[.int .i64 s, .int .i64 u])::(.agg #[.int .i64 s', .int .i64 u'])::undef::(.pointer (some ⟨h0, 0, none⟩))::(.pointer (some ⟨(h0 + 1), 0, none⟩))::(.pointer (some ⟨(h0 + 2), 0, none⟩))::(.bool false)::(.int .i64 (i : Int))::(.pointer (some ⟨h8, 0, none⟩))::(.pointer (some ⟨r, 0, none⟩))::(.agg k.L.toArray)::(.int .i64 (i : Int))::(.int .i64 (i : Int))::(.bool false)::(.bool false)::(.pointer (some ⟨r, 0, none⟩))::(.pointer (some ⟨r, 0, none⟩))::(.pointer (some ⟨r, 0, none⟩))::(.slice (some ⟨b, o, none⟩) l.length c)::(.int .i64 (i : Int))::(.pointer (some ⟨b, o + i * 36, none⟩))::(.pointer (some ⟨b, o + i * 36 + 32, none⟩))::(.pointer (some ⟨b, o + i * 36 + 32, none⟩))::(.agg #[.int .i64 x.2.seg, .int .i64 x.2.off])::(.agg #[.int .i64 s, .int .i64 u])::(.bool false)::(.bool false)::(.pointer (some ⟨r, 0, none⟩))::(.pointer (some ⟨r, 0, none⟩))::(.pointer (some ⟨r, 0, none⟩))::(.slice (some ⟨b, o, none⟩) l.length c)::(.int .i64 (i : Int))::(.pointer (some ⟨b, o + i * 36, none⟩))::(.pointer (some ⟨b, o + i * 36 + 32, none⟩))::(.agg x.2.L.toArray)::(.agg #[.int .i64 s', .int .i64 u'])::(.pointer (some ⟨h8, 0, none⟩))::undef::undef::undef::undef::[]), []⟩) rfl h8 0 #[.int .i64 s', .int .i64 u'] (by kernel_rfl) rfl (by kernel_rfl) rfl rfl (blk_there H4.out.1 0 2 (by show 0 + 2 ≤ 4; omega)) (place_sizeG (C := [.int .i64 s', .int .i64 u']) rfl) (by simp [Value.oneCell']) ?_
      obtain ⟨w5, hw5⟩ : ∃ w5, w5 = (World.setCells w4 h8 0 [.int .i64 s', .int .i64 u']) := ⟨_, rfl⟩
      have m45 : Mod (one h8) w4 w5 := by rw [hw5]; exact mod_setCells (S := one h8) (fun _ => rfl) _ _ _ (Mod.refl _ _)
      obtain ⟨e5, he5⟩ : ∃ e5 : Ent, e5 = { x.2 with seg := s', off := u' } := ⟨_, rfl⟩
      have b5 : Blk w5 h8 56 e5.L.toArray := by rw [hw5, he5]; exact blk_sets h8 [.int .i64 s', .int .i64 u'] 0 x.2.L w4 H4.out.1 (by show 0 + 2 ≤ 4; omega)
      change HD.WL _ _ _ _ (World.setCells w4 h8 0 [.int .i64 s', .int .i64 u'])
      rw [← hw5]
      have H5 := Lib.hid (show RAt w5 r (.slice (some ⟨b, o, none⟩) l.length c) l ∧ Blk w5 h8 56 e5.L.toArray ∧ Mod no w w5 from ⟨⟨H4.out.2.2.1.mod m45 (fun c => H4.out.2.2.2.2.2 c), H4.out.2.2.2.1.mod m45 (fun b' eb c => by injection eb with eb; exact HN8.out (eb.trans c))⟩, b5, H4.out.2.1.trans m45 (fun y hy c => H4.out.2.2.2.2.1 y hy c)⟩)
      have HV := Lib.hid he5
      clear m45 hw5 b5 he5
      refine HD.wl_done ?_
      go_upto_region 6 with fail
      refine HD.wl_begin ?_
      refine HD.wl_takeF (d := some 39) (v := (.pointer (some ⟨r, 0, none⟩))) (by kernel_rfl) rfl rfl (y_move rfl rfl) ?_
      refine HD.wl_takeF (d := some 40) (v := (.int .i64 (i : Int))) (by kernel_rfl) rfl rfl (y_move rfl rfl) ?_
      refine HD.wl_takeF (d := some 41) (v := (.agg e5.L.toArray)) (a' := ⟨List.toArray ((.pointer (some ⟨r, 0, none⟩))::(.agg k.L.toArray)::(.agg #[.int .i64 s, .int .i64 u])::(.agg #[.int .i64 s', .int .i64 u'])::undef::(.pointer (some ⟨h0, 0, none⟩))::(.pointer (some ⟨(h0 + 1), 0, none⟩))::(.pointer (some ⟨(h0 + 2), 0, none⟩))::(.bool false)::(.int .i64 (i : Int))::(.pointer (some ⟨h8, 0, none⟩))::(.pointer (some ⟨r, 0, none⟩))::(.agg k.L.toArray)::(.int .i64 (i : Int))::(.int .i64 (i : Int))::(.bool false)::(.bool false)::(.pointer (some ⟨r, 0, none⟩))::(.pointer (some ⟨r, 0, none⟩))::(.pointer (some ⟨r, 0, none⟩))::(.slice (some ⟨b, o, none⟩) l.length c)::(.int .i64 (i : Int))::(.pointer (some ⟨b, o + i * 36, none⟩))::(.pointer (some ⟨b, o + i * 36 + 32, none⟩))::(.pointer (some ⟨b, o + i * 36 + 32, none⟩))::(.agg #[.int .i64 x.2.seg, .int .i64 x.2.off])::(.agg #[.int .i64 s, .int .i64 u])::(.bool false)::(.bool false)::(.pointer (some ⟨r, 0, none⟩))::(.pointer (some ⟨r, 0, none⟩))::(.pointer (some ⟨r, 0, none⟩))::(.slice (some ⟨b, o, none⟩) l.length c)::(.int .i64 (i : Int))::(.pointer (some ⟨b, o + i * 36, none⟩))::(.pointer (some ⟨b, o + i * 36 + 32, none⟩))::(.agg x.2.L.toArray)::(.agg #[.int .i64 s', .int .i64 u'])::(.pointer (some ⟨h8, 0, none⟩))::(.pointer (some ⟨r, 0, none⟩))::(.int .i64 (i : Int))::(.agg e5.L.toArray)::undef::[]), []⟩) (by kernel_rfl) rfl (by kernel_rfl) (y_ent rfl rfl (blk_range H5.out.2.1)) ?_
      refine HD.wl_callF (d := some 42) (v := (.tuple #[])) (a' := ⟨List.toArray ((.pointer (some ⟨r, 0, none⟩))::(.agg k.L.toArray)::(.agg #[.int .i64 s, .int .i64 u])::(.agg #[.int .i64 s', .int .i64 u'])::undef::(.pointer (some ⟨h0, 0, none⟩))::(.pointer (some ⟨(h0 + 1), 0, none⟩))::(.pointer (some ⟨(h0 + 2), 0, none⟩))::(.bool false)::(.int .i64 (i : Int))::(.pointer (some ⟨h8, 0, none⟩))::(.pointer (some ⟨r, 0, none⟩))::(.agg k.L.toArray)::(.int .i64 (i : Int))::(.int .i64 (i : Int))::(.bool false)::(.bool false)::(.pointer (some ⟨r, 0, none⟩))::(.pointer (some ⟨r, 0, none⟩))::(.pointer (some ⟨r, 0, none⟩))::(.slice (some ⟨b, o, none⟩) l.length c)::(.int .i64 (i : Int))::(.pointer (some ⟨b, o + i * 36, none⟩))::(.pointer (some ⟨b, o + i * 36 + 32, none⟩))::(.pointer (some ⟨b, o + i * 36 + 32, none⟩))::(.agg #[.int .i64 x.2.seg, .int .i64 x.2.off])::(.agg #[.int .i64 s, .int .i64 u])::(.bool false)::(.bool false)::(.pointer (some ⟨r, 0, none⟩))::(.pointer (some ⟨r, 0, none⟩))::(.pointer (some ⟨r, 0, none⟩))::(.slice (some ⟨b, o, none⟩) l.length c)::(.int .i64 (i : Int))::(.pointer (some ⟨b, o + i * 36, none⟩))::(.pointer (some ⟨b, o + i * 36 + 32, none⟩))::(.agg x.2.L.toArray)::(.agg #[.int .i64 s', .int .i64 u'])::(.pointer (some ⟨h8, 0, none⟩))::(.pointer (some ⟨r, 0, none⟩))::(.int .i64 (i : Int))::(.agg e5.L.toArray)::(.tuple #[])::[]), []⟩) (by kernel_rfl) rfl (by kernel_rfl) fun K hK => ?_
      refine op_c3 (fun _ _ => rfl) rfl rfl rfl rfl (rwith_any H5.out.1 HA.out.2.2.2 i e5) ?_
      rintro en w6 ⟨rfl, hn6⟩
      rw [HC.out.2.2.2 e5] at hn6
      have H6 := Lib.hid (hn6.before H5.out.2.2)
      clear hn6
      refine ⟨_, rfl, hK _ ?_⟩
      clear hK K
      refine HD.wl_done ?_
      go_wp2_with fail
      go_ret
      refine ⟨some x.2, HC.out.2.2.1, ?_⟩
      have e1 : (some x.2).bind (moved s u s' u') = some e5 := by show moved s u s' u' x.2 = some e5; unfold moved; rw [if_pos HE.out, HV.out]
      rw [e1]
      exact ⟨rfl, H6.out⟩
    · have HE := Lib.hid he
      have hd : decide (x.2.seg = s ∧ x.2.off = u) = false := decide_eq_false he
      clear he
      go_upto_region 2 with fail
      refine wp_region_held_drew (S := fun w9 => Blk w9 r 79 #[.slice (some ⟨b, o, none⟩) l.length c] ∧ w9.rangeAt b (o + i * 36 + 32) x.2.L ∧ w9.rangeAt (h0 + 1) 0 [.int .i64 s, .int .i64 u]) (by kernel_rfl) ⟨HF.out.2.2.1.drew, HC.out.2.1, HQ.out.1⟩ (fun hHeld => ?_)
      refine takeD (i := 0) (d := some 14) (v := (.int .i64 (i : Int))) rfl (by kernel_rfl) (by kernel_rfl) (by kernel_rfl) rfl (fun _ _ _ h => h) (Or.inl ⟨by kernel_rfl, fun w9 hw => y_move rfl rfl⟩) hHeld ?_
      simp only [Act.put, List.setIfInBounds_toArray, List.set_cons_zero, List.set_cons_succ]
      refine takeD (i := 1) (d := some 15) (v := (.bool false)) rfl (by kernel_rfl) (by kernel_rfl) (by kernel_rfl) rfl (fun _ _ _ h => h) (Or.inl ⟨by kernel_rfl, fun w9 hw => y_lss0 d1 rfl rfl⟩) hHeld ?_
      simp only [Act.put, List.setIfInBounds_toArray, List.set_cons_zero, List.set_cons_succ]
      refine takeD (i := 2) (d := some 16) (v := (.bool false)) rfl (by kernel_rfl) (by kernel_rfl) (by kernel_rfl) rfl (fun _ _ _ h => h) (Or.inl ⟨by kernel_rfl, fun w9 hw => y_move rfl rfl⟩) hHeld ?_
      simp only [Act.put, List.setIfInBounds_toArray, List.set_cons_zero, List.set_cons_succ]
      refine takeD (i := 3) (d := some 17) (v := (.pointer (some ⟨r, 0, none⟩))) rfl (by kernel_rfl) (by kernel_rfl) (by kernel_rfl) rfl (fun _ _ _ h => h) (Or.inl ⟨by kernel_rfl, fun w9 hw => y_move rfl rfl⟩) hHeld ?_
      simp only [Act.put, List.setIfInBounds_toArray, List.set_cons_zero, List.set_cons_succ]
      refine takeD (i := 4) (d := some 18) (v := (.pointer (some ⟨r, 0, none⟩))) rfl (by kernel_rfl) (by kernel_rfl) (by kernel_rfl) rfl (fun _ _ _ h => h) (Or.inl ⟨by kernel_rfl, fun w9 hw => y_nil rfl rfl⟩) hHeld ?_
      simp only [Act.put, List.setIfInBounds_toArray, List.set_cons_zero, List.set_cons_succ]
      refine takeD (i := 5) (d := some 19) (v := (.pointer (some ⟨r, 0, none⟩))) rfl (by kernel_rfl) (by kernel_rfl) (by kernel_rfl) rfl (fun _ _ _ h => h) (Or.inl ⟨by kernel_rfl, fun w9 hw => y_fri rfl rfl⟩) hHeld ?_
      simp only [Act.put, List.setIfInBounds_toArray, List.set_cons_zero, List.set_cons_succ]
      refine takeD (i := 6) (d := some 20) (v := (.slice (some ⟨b, o, none⟩) l.length c)) rfl (by kernel_rfl) (by kernel_rfl) (by kernel_rfl) rfl (fun _ _ _ h => h) (Or.inl ⟨by kernel_rfl, fun w9 hw => y_ldkv rfl rfl (hw.1.cell 0)⟩) hHeld ?_
      simp only [Act.put, List.setIfInBounds_toArray, List.set_cons_zero, List.set_cons_succ]
      refine takeD (i := 7) (d := some 21) (v := (.int .i64 (i : Int))) rfl (by kernel_rfl) (by kernel_rfl) (by kernel_rfl) rfl (fun _ _ _ h => h) (Or.inl ⟨by kernel_rfl, fun w9 hw => y_move rfl rfl⟩) hHeld ?_
      simp only [Act.put, List.setIfInBounds_toArray, List.set_cons_zero, List.set_cons_succ]
      refine takeD (i := 8) (d := some 22) (v := (.pointer (some ⟨b, o + i * 36, none⟩))) rfl (by kernel_rfl) (by kernel_rfl) (by kernel_rfl) rfl (fun _ _ _ h => h) (Or.inl ⟨by kernel_rfl, fun w9 hw => y_ixkv rfl rfl rfl HC.out.1⟩) hHeld ?_
      simp only [Act.put, List.setIfInBounds_toArray, List.set_cons_zero, List.set_cons_succ]
      refine takeD (i := 9) (d := some 23) (v := (.pointer (some ⟨b, o + i * 36 + 32, none⟩))) rfl (by kernel_rfl) (by kernel_rfl) (by kernel_rfl) rfl (fun _ _ _ h => h) (Or.inl ⟨by kernel_rfl, fun w9 hw => y_fk1 rfl rfl⟩) hHeld ?_
      simp only [Act.put, List.setIfInBounds_toArray, List.set_cons_zero, List.set_cons_succ]
      refine takeD (i := 10) (d := some 24) (v := (.pointer (some ⟨b, o + i * 36 + 32, none⟩))) rfl (by kernel_rfl) (by kernel_rfl) (by kernel_rfl) rfl (fun _ _ _ h => h) (Or.inl ⟨by kernel_rfl, fun w9 hw => y_fe0' rfl rfl⟩) hHeld ?_
      simp only [Act.put, List.setIfInBounds_toArray, List.set_cons_zero, List.set_cons_succ]
      refine takeD (i := 11) (d := some 25) (v := (.agg #[.int .i64 x.2.seg, .int .i64 x.2.off])) rfl (by kernel_rfl) (by kernel_rfl) (by kernel_rfl) rfl (fun _ _ _ h => h) (Or.inl ⟨by kernel_rfl, fun w9 hw => y_place rfl rfl (fun j v hv => hw.2.1 j v (by match j, hv with | 0, hv => exact hv | 1, hv => exact hv))⟩) hHeld ?_
      simp only [Act.put, List.setIfInBounds_toArray, List.set_cons_zero, List.set_cons_succ]
      refine takeD (i := 12) (d := some 26) (v := (.agg #[.int .i64 s, .int .i64 u])) rfl (by kernel_rfl) (by kernel_rfl) (by kernel_rfl) rfl (fun _ _ _ h => h) (Or.inl ⟨by kernel_rfl, fun w9 hw => y_place rfl rfl hw.2.2⟩) hHeld ?_
      simp only [Act.put, List.setIfInBounds_toArray, List.set_cons_zero, List.set_cons_succ]
      refine takeD (i := 13) (d := some 27) (v := (.bool true)) rfl (by kernel_rfl) (by kernel_rfl) (by kernel_rfl) rfl (fun _ _ _ h => h) (Or.inl ⟨by kernel_rfl, fun w9 hw => y_neqP (d := false) hd rfl rfl rfl⟩) hHeld ?_
      simp only [Act.put, List.setIfInBounds_toArray, List.set_cons_zero, List.set_cons_succ]
      refine takeD (i := 14) (d := some 28) (v := (.bool true)) rfl (by kernel_rfl) (by kernel_rfl) (by kernel_rfl) rfl (fun _ _ _ h => h) (Or.inl ⟨by kernel_rfl, fun w9 hw => y_pick' (b := false) rfl rfl rfl⟩) hHeld ?_
      simp only [Act.put, List.setIfInBounds_toArray, List.set_cons_zero, List.set_cons_succ]
      refine wpAnyH_done (by kernel_rfl) ?_ _
      go_wp2_with fail
      go_ret
      refine ⟨some x.2, HC.out.2.2.1, ?_⟩
      have e1 : (some x.2).bind (moved s u s' u') = none := by show moved s u s' u' x.2 = none; unfold moved; rw [if_neg HE.out]
      rw [e1]
      exact ⟨rfl, HF.out.2.1.drew⟩
end Go.Proofs.Ytknbehjhaaidoaa.IX

