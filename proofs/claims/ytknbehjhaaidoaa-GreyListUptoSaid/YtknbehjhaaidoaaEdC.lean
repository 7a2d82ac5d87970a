/- The document's list of entries: its Pop; nothing to bump or to pop (printed by greyref3.py). -/
import Derived.Test.YtknbehjhaaidoaaEdB
import Derived.StillTailTactics
import Derived.Deep.RegionWith
namespace Go.Proofs.Ytknbehjhaaidoaa.DG
open Go.RowKit Mem DQ
set_option linter.unusedVariables false
set_option linter.unusedSimpArgs false

theorem y_sl {a : Act} {o : Oper} {w : World} {x y : Operand} {b o' n c : Nat} (ho : o.op = .slice 35 x none (some y) none) (hx : a.eval x = .slice (some ⟨b, o', none⟩) (n + 1) c) (hy : a.eval y = .int .i64 (n : Int)) (hc : n + 1 ≤ c) : (execOp a.eval o).run Try.prog w = .ok (.value (.slice (some ⟨b, o', none⟩) n c)) w := by
  have h0 : (0 : Int) ≤ (n : Int) := by omega
  have h1 : (n : Int) ≤ (c : Int) := by omega
  have h2 : ¬ c = 0 := by omega
  generalize a.eval = ev at hx hy
  unfold execOp
  simp only [ho, hx, hy]
  go_simp
theorem y_reff {a : Act} {o : Oper} {w : World} {x : Operand} {g : Nat} (ho : o.op = .fieldAddr 37 x 0) (hx : a.eval x = .pointer (some ⟨g, 0, none⟩)) : (execOp a.eval o).run Try.prog w = .ok (.value (.pointer (some ⟨g, 0, none⟩))) w := by
  generalize a.eval = ev at hx
  unfold execOp
  simp only [ho, hx]
  go_simp
theorem y_len {a : Act} {o : Oper} {w : World} {x : Operand} {A : Option Addr} {n c : Nat} (ho : o.op = .call { callee := .builtin .len, args := #[x], argTypes := #[35] }) (hx : a.eval x = .slice A n c) : (execOp a.eval o).run Try.prog w = .ok (.value (.int .i64 (n : Int))) w := by
  generalize a.eval = ev at hx
  unfold execOp
  simp only [ho, hx]
  go_simp
theorem op_greys {a : Act} {o : Oper} {w : World} {K : Act → World → Prop} {Q : Exit → Act → World → Prop} {x : Operand} {u : Value} {R : Ending → World → Prop} (ho : o.op = .call { callee := .value (.func 76), args := #[x], argTypes := #[35] }) (hx : a.eval x = u)
    (hC : Calls Try.prog 76 #[u] w R) (hR : ∀ e w', R e w' → ∃ u, e = .returned u ∧ K (a.put o.dst u) w') : Oper.wp Try.prog o a w K Q := by
  have h : (execOp a.eval o).run Try.prog w = .ok (.enter 76 #[u]) w := by
    have hf : a.eval (.func 76) = .func (.func 76) #[] #[] := rfl
    generalize a.eval = ev at hx hf
    unfold execOp
    simp only [ho]
    go_simp
  unfold Oper.wp
  rw [h, Oper.upon_enter]
  refine hC.mono fun e w' hr => ?_
  obtain ⟨u, rfl, hk⟩ := hR e w' hr
  exact hk

set_option maxRecDepth 100000 in
set_option maxHeartbeats 4000000 in
theorem rbump_none {w : World} {r : Nat} {bottom : Bool} {A : Option Addr} (h : RAt w r A []) :
    Calls Try.prog 43 #[.pointer (some ⟨r, 0, none⟩), .bool bottom] w fun e w' => e = .returned (.tuple #[.agg zl.toArray, .bool false]) ∧ Mod no w w' := by
  obtain ⟨c, hb, hs, hc⟩ := h.at_
  have m1 : Mod no w (w.alloc (.cells #[.int .u8 0, .int .u8 0, .int .u8 0, .int .u8 0, .int .u8 0, .int .u8 0, .int .u8 0, .int .u8 0, .int .u8 0, .int .u8 0, .int .u8 0, .int .u8 0, .int .u8 0, .int .u8 0, .int .u8 0, .int .u8 0, .int .u8 0, .int .u8 0, .int .u8 0, .int .u8 0, .int .u8 0, .int .u8 0, .int .u8 0, .int .u8 0, .int .u8 0, .int .u8 0, .int .u8 0, .int .u8 0, .int .u8 0, .int .u8 0, .int .u8 0, .int .u8 0, .int .i64 0] 89)) := (Mod.refl no w).alloc _
  have H0 := Lib.hid (And.intro (hb.mod m1 (fun c => c)) (And.intro (Blk.new w 89 #[.int .u8 0, .int .u8 0, .int .u8 0, .int .u8 0, .int .u8 0, .int .u8 0, .int .u8 0, .int .u8 0, .int .u8 0, .int .u8 0, .int .u8 0, .int .u8 0, .int .u8 0, .int .u8 0, .int .u8 0, .int .u8 0, .int .u8 0, .int .u8 0, .int .u8 0, .int .u8 0, .int .u8 0, .int .u8 0, .int .u8 0, .int .u8 0, .int .u8 0, .int .u8 0, .int .u8 0, .int .u8 0, .int .u8 0, .int .u8 0, .int .u8 0, .int .u8 0, .int .i64 0]) m1))
  clear hb hs hc m1 h
  go_enter Try.func43, Try.ntmps43
  go_wp2_with fail
  generalize w.alloc (.cells #[.int .u8 0, .int .u8 0, .int .u8 0, .int .u8 0, .int .u8 0, .int .u8 0, .int .u8 0, .int .u8 0, .int .u8 0, .int .u8 0, .int .u8 0, .int .u8 0, .int .u8 0, .int .u8 0, .int .u8 0, .int .u8 0, .int .u8 0, .int .u8 0, .int .u8 0, .int .u8 0, .int .u8 0, .int .u8 0, .int .u8 0, .int .u8 0, .int .u8 0, .int .u8 0, .int .u8 0, .int .u8 0, .int .u8 0, .int .u8 0, .int .u8 0, .int .u8 0, .int .i64 0] 89) = w1 at *
  refine (rend_any H0.out.1 (by decide)).mono ?_
  rintro e w2 ⟨rfl, rfl⟩
  rw [show rendV bottom ([] : List (List Value)).length = -1 from rfl]
  go_wp2_with (first
    | (refine wpList_store_mid rfl 89 (.tmp 4) (.tmp 13) rfl w.heap.size 0 zl.toArray rfl rfl (var_there H0.out.2.1 rfl) (ele_info zl_ele) (ele_one zl_ele) ?_
       simp only [List.toList_toArray]
       have H5 := Lib.hid (And.intro (var_set H0.out.2.1 rfl zl_ele).1 (mod_new H0.out.2.2 (var_set H0.out.2.1 rfl zl_ele).2 (Nat.le_refl _)))
       generalize w1.setCells w.heap.size 0 zl = w5 at *))
  exact grey_done zl_ele.1 (var_range H5.out.1) _ rfl rfl rfl _ Try.results43 _ ⟨rfl, H5.out.2⟩

set_option maxRecDepth 100000 in
set_option maxHeartbeats 4000000 in
theorem rpop_none {w : World} {r : Nat} {bottom : Bool} {A : Option Addr} (h : RAt w r A []) :
    Calls Try.prog 45 #[.pointer (some ⟨r, 0, none⟩), .bool bottom] w fun e w' => e = .returned (.tuple #[.agg zl.toArray, .bool false]) ∧ Mod no w w' := by
  have m1 : Mod no w (w.alloc (.cells #[.int .u8 0, .int .u8 0, .int .u8 0, .int .u8 0, .int .u8 0, .int .u8 0, .int .u8 0, .int .u8 0, .int .u8 0, .int .u8 0, .int .u8 0, .int .u8 0, .int .u8 0, .int .u8 0, .int .u8 0, .int .u8 0, .int .u8 0, .int .u8 0, .int .u8 0, .int .u8 0, .int .u8 0, .int .u8 0, .int .u8 0, .int .u8 0, .int .u8 0, .int .u8 0, .int .u8 0, .int .u8 0, .int .u8 0, .int .u8 0, .int .u8 0, .int .u8 0, .int .i64 0] 89)) := (Mod.refl no w).alloc _
  have H0 := Lib.hid (And.intro (h.mod_no m1) (And.intro (show Blk (w.alloc (.cells #[.int .u8 0, .int .u8 0, .int .u8 0, .int .u8 0, .int .u8 0, .int .u8 0, .int .u8 0, .int .u8 0, .int .u8 0, .int .u8 0, .int .u8 0, .int .u8 0, .int .u8 0, .int .u8 0, .int .u8 0, .int .u8 0, .int .u8 0, .int .u8 0, .int .u8 0, .int .u8 0, .int .u8 0, .int .u8 0, .int .u8 0, .int .u8 0, .int .u8 0, .int .u8 0, .int .u8 0, .int .u8 0, .int .u8 0, .int .u8 0, .int .u8 0, .int .u8 0, .int .i64 0] 89)) w.heap.size 89 zl.toArray from Blk.new w 89 #[.int .u8 0, .int .u8 0, .int .u8 0, .int .u8 0, .int .u8 0, .int .u8 0, .int .u8 0, .int .u8 0, .int .u8 0, .int .u8 0, .int .u8 0, .int .u8 0, .int .u8 0, .int .u8 0, .int .u8 0, .int .u8 0, .int .u8 0, .int .u8 0, .int .u8 0, .int .u8 0, .int .u8 0, .int .u8 0, .int .u8 0, .int .u8 0, .int .u8 0, .int .u8 0, .int .u8 0, .int .u8 0, .int .u8 0, .int .u8 0, .int .u8 0, .int .u8 0, .int .i64 0]) m1))
  clear m1 h
  go_enter Try.func45, Try.ntmps45
  go_wp2_with fail
  generalize w.alloc (.cells #[.int .u8 0, .int .u8 0, .int .u8 0, .int .u8 0, .int .u8 0, .int .u8 0, .int .u8 0, .int .u8 0, .int .u8 0, .int .u8 0, .int .u8 0, .int .u8 0, .int .u8 0, .int .u8 0, .int .u8 0, .int .u8 0, .int .u8 0, .int .u8 0, .int .u8 0, .int .u8 0, .int .u8 0, .int .u8 0, .int .u8 0, .int .u8 0, .int .u8 0, .int .u8 0, .int .u8 0, .int .u8 0, .int .u8 0, .int .u8 0, .int .u8 0, .int .u8 0, .int .i64 0] 89) = w1 at *
  refine (rat_none H0.out.1).mono ?_
  rintro e w2 ⟨rfl, m2⟩
  have H2 := Lib.hid (And.intro (H0.out.2.1.mod m2 (fun c => c)) (H0.out.2.2.and_then m2))
  have hs2 := (H0.out.2.1.mod m2 (fun c => c)).lt
  clear m2
  go_wp2_with (first
    | (refine wpList_store_mid rfl 89 (.tmp 6) (.tmp 12) rfl w2.heap.size 0 zl.toArray rfl rfl (var_there (Blk.new w2 89 zl.toArray) rfl) (ele_info zl_ele) (ele_one zl_ele) ?_
       simp only [List.toList_toArray]
       obtain ⟨b6, m6⟩ := var_set (show Blk (w2.alloc (.cells #[.int .u8 0, .int .u8 0, .int .u8 0, .int .u8 0, .int .u8 0, .int .u8 0, .int .u8 0, .int .u8 0, .int .u8 0, .int .u8 0, .int .u8 0, .int .u8 0, .int .u8 0, .int .u8 0, .int .u8 0, .int .u8 0, .int .u8 0, .int .u8 0, .int .u8 0, .int .u8 0, .int .u8 0, .int .u8 0, .int .u8 0, .int .u8 0, .int .u8 0, .int .u8 0, .int .u8 0, .int .u8 0, .int .u8 0, .int .u8 0, .int .u8 0, .int .u8 0, .int .i64 0] 89)) w2.heap.size 89 zl.toArray from Blk.new w2 89 #[.int .u8 0, .int .u8 0, .int .u8 0, .int .u8 0, .int .u8 0, .int .u8 0, .int .u8 0, .int .u8 0, .int .u8 0, .int .u8 0, .int .u8 0, .int .u8 0, .int .u8 0, .int .u8 0, .int .u8 0, .int .u8 0, .int .u8 0, .int .u8 0, .int .u8 0, .int .u8 0, .int .u8 0, .int .u8 0, .int .u8 0, .int .u8 0, .int .u8 0, .int .u8 0, .int .u8 0, .int .u8 0, .int .u8 0, .int .u8 0, .int .u8 0, .int .u8 0, .int .i64 0]) rfl zl_ele
       have m6' : Mod no w2 ((w2.alloc (.cells #[.int .u8 0, .int .u8 0, .int .u8 0, .int .u8 0, .int .u8 0, .int .u8 0, .int .u8 0, .int .u8 0, .int .u8 0, .int .u8 0, .int .u8 0, .int .u8 0, .int .u8 0, .int .u8 0, .int .u8 0, .int .u8 0, .int .u8 0, .int .u8 0, .int .u8 0, .int .u8 0, .int .u8 0, .int .u8 0, .int .u8 0, .int .u8 0, .int .u8 0, .int .u8 0, .int .u8 0, .int .u8 0, .int .u8 0, .int .u8 0, .int .u8 0, .int .u8 0, .int .i64 0] 89)).setCells w2.heap.size 0 zl) := mod_new ((Mod.refl no w2).alloc _) m6 (Nat.le_refl _)
       have H3 := Lib.hid (And.intro (H2.out.1.mod m6' (fun c => c)) (And.intro (H2.out.2.and_then m6') b6))
       clear b6 m6 m6'
       generalize (w2.alloc (.cells #[.int .u8 0, .int .u8 0, .int .u8 0, .int .u8 0, .int .u8 0, .int .u8 0, .int .u8 0, .int .u8 0, .int .u8 0, .int .u8 0, .int .u8 0, .int .u8 0, .int .u8 0, .int .u8 0, .int .u8 0, .int .u8 0, .int .u8 0, .int .u8 0, .int .u8 0, .int .u8 0, .int .u8 0, .int .u8 0, .int .u8 0, .int .u8 0, .int .u8 0, .int .u8 0, .int .u8 0, .int .u8 0, .int .u8 0, .int .u8 0, .int .u8 0, .int .u8 0, .int .i64 0] 89)).setCells w2.heap.size 0 zl = w3 at *)
    | (refine wpList_load_mid rfl 89 (.tmp 6) rfl w2.heap.size 0 rfl zl _ (var_range H3.out.2.2) Try.underlying89 rfl (grey_info zl_ele.1) ?_)
    | (refine wpList_store_mid rfl 89 (.tmp 4) (.tmp 16) rfl w.heap.size 0 zl.toArray rfl rfl (var_there H3.out.1 rfl) (ele_info zl_ele) (ele_one zl_ele) ?_
       simp only [List.toList_toArray]
       have H5 := Lib.hid (And.intro (var_set H3.out.1 rfl zl_ele).1 (mod_new H3.out.2.1 (var_set H3.out.1 rfl zl_ele).2 (Nat.le_refl _)))
       generalize w3.setCells w.heap.size 0 zl = w5 at *))
  exact grey_done zl_ele.1 (var_range H5.out.1) _ rfl rfl rfl _ Try.results45 _ ⟨rfl, H5.out.2⟩

set_option maxRecDepth 100000 in
set_option maxHeartbeats 4000000 in
theorem rpop_bottom {w : World} {r : Nat} {A : Option Addr} {L : List (List Value)} {x : List Value} (h : RAt w r A (x :: L)) (hL : L.length ≤ 1048500) :
    Calls Try.prog 45 #[.pointer (some ⟨r, 0, none⟩), .bool true] w fun e w' => e = .returned (.tuple #[.agg x.toArray, .bool true]) ∧ RNew w w' r L ∧ Mod (one r) w w' := by
  have m1 : Mod no w (w.alloc (.cells #[.int .u8 0, .int .u8 0, .int .u8 0, .int .u8 0, .int .u8 0, .int .u8 0, .int .u8 0, .int .u8 0, .int .u8 0, .int .u8 0, .int .u8 0, .int .u8 0, .int .u8 0, .int .u8 0, .int .u8 0, .int .u8 0, .int .u8 0, .int .u8 0, .int .u8 0, .int .u8 0, .int .u8 0, .int .u8 0, .int .u8 0, .int .u8 0, .int .u8 0, .int .u8 0, .int .u8 0, .int .u8 0, .int .u8 0, .int .u8 0, .int .u8 0, .int .u8 0, .int .i64 0] 89)) := (Mod.refl no w).alloc _
  obtain ⟨c, hb, hs, hc⟩ := id h.at_
  obtain ⟨b, o, rfl, hbl, hbr⟩ := hs.at_ (by simp)
  clear hbl hbr
  have hel := hs.e x (by simp)
  have hrl := hb.lt
  rw [List.length_cons] at hb hc
  have H0 := Lib.hid (And.intro (h.mod_no m1) (And.intro (show Blk (w.alloc (.cells #[.int .u8 0, .int .u8 0, .int .u8 0, .int .u8 0, .int .u8 0, .int .u8 0, .int .u8 0, .int .u8 0, .int .u8 0, .int .u8 0, .int .u8 0, .int .u8 0, .int .u8 0, .int .u8 0, .int .u8 0, .int .u8 0, .int .u8 0, .int .u8 0, .int .u8 0, .int .u8 0, .int .u8 0, .int .u8 0, .int .u8 0, .int .u8 0, .int .u8 0, .int .u8 0, .int .u8 0, .int .u8 0, .int .u8 0, .int .u8 0, .int .u8 0, .int .u8 0, .int .i64 0] 89)) w.heap.size 89 zl.toArray from Blk.new w 89 #[.int .u8 0, .int .u8 0, .int .u8 0, .int .u8 0, .int .u8 0, .int .u8 0, .int .u8 0, .int .u8 0, .int .u8 0, .int .u8 0, .int .u8 0, .int .u8 0, .int .u8 0, .int .u8 0, .int .u8 0, .int .u8 0, .int .u8 0, .int .u8 0, .int .u8 0, .int .u8 0, .int .u8 0, .int .u8 0, .int .u8 0, .int .u8 0, .int .u8 0, .int .u8 0, .int .u8 0, .int .u8 0, .int .u8 0, .int .u8 0, .int .u8 0, .int .u8 0, .int .i64 0]) (And.intro m1 (And.intro (hb.mod m1 (fun c => c)) (hs.mod_no m1)))))
  have HP := Lib.hid (And.intro hel (And.intro hL hc))
  have hL1 : (x :: L).length ≤ 1048600 := by simp; omega
  clear m1 h hb hs hel
  go_enter Try.func45, Try.ntmps45
  go_wp2_with fail
  generalize w.alloc (.cells #[.int .u8 0, .int .u8 0, .int .u8 0, .int .u8 0, .int .u8 0, .int .u8 0, .int .u8 0, .int .u8 0, .int .u8 0, .int .u8 0, .int .u8 0, .int .u8 0, .int .u8 0, .int .u8 0, .int .u8 0, .int .u8 0, .int .u8 0, .int .u8 0, .int .u8 0, .int .u8 0, .int .u8 0, .int .u8 0, .int .u8 0, .int .u8 0, .int .u8 0, .int .u8 0, .int .u8 0, .int .u8 0, .int .u8 0, .int .u8 0, .int .u8 0, .int .u8 0, .int .i64 0] 89) = w1 at *
  refine (rat_has H0.out.1 hL1 (x := x) rfl).mono ?_
  rintro e w2 ⟨rfl, m2⟩
  have hs1 := H0.out.2.2.1.size
  have hs2 := m2.size
  have hwl := H0.out.2.1.lt
  have H2 := Lib.hid (And.intro (H0.out.2.1.mod m2 (fun c => c)) (And.intro (H0.out.2.2.1.and_then m2) (And.intro (H0.out.2.2.2.1.mod m2 (fun c => c)) (H0.out.2.2.2.2.mod_no m2))))
  clear m2
  have HE := Lib.hid (show ∀ y ∈ L, Ele y from fun y hy => H2.out.2.2.2.e y (by simp [hy]))
  by_cases hc1 : c = 1
  · subst hc1
    obtain rfl : L = [] := List.eq_nil_of_length_eq_zero (by omega)
    go_wp2_with (first
      | (refine wpList_store_mid rfl 89 (.tmp 6) (.tmp 12) rfl w2.heap.size 0 x.toArray rfl rfl (by rw [ele_size HP.out.1]; exact var_there (Blk.new w2 89 zl.toArray) rfl) (ele_info HP.out.1) (ele_one HP.out.1) ?_
         simp only [List.toList_toArray]
         obtain ⟨b6, m6⟩ := var_set (show Blk (w2.alloc (.cells #[.int .u8 0, .int .u8 0, .int .u8 0, .int .u8 0, .int .u8 0, .int .u8 0, .int .u8 0, .int .u8 0, .int .u8 0, .int .u8 0, .int .u8 0, .int .u8 0, .int .u8 0, .int .u8 0, .int .u8 0, .int .u8 0, .int .u8 0, .int .u8 0, .int .u8 0, .int .u8 0, .int .u8 0, .int .u8 0, .int .u8 0, .int .u8 0, .int .u8 0, .int .u8 0, .int .u8 0, .int .u8 0, .int .u8 0, .int .u8 0, .int .u8 0, .int .u8 0, .int .i64 0] 89)) w2.heap.size 89 zl.toArray from Blk.new w2 89 #[.int .u8 0, .int .u8 0, .int .u8 0, .int .u8 0, .int .u8 0, .int .u8 0, .int .u8 0, .int .u8 0, .int .u8 0, .int .u8 0, .int .u8 0, .int .u8 0, .int .u8 0, .int .u8 0, .int .u8 0, .int .u8 0, .int .u8 0, .int .u8 0, .int .u8 0, .int .u8 0, .int .u8 0, .int .u8 0, .int .u8 0, .int .u8 0, .int .u8 0, .int .u8 0, .int .u8 0, .int .u8 0, .int .u8 0, .int .u8 0, .int .u8 0, .int .u8 0, .int .i64 0]) rfl HP.out.1
         have m6' : Mod no w2 ((w2.alloc (.cells #[.int .u8 0, .int .u8 0, .int .u8 0, .int .u8 0, .int .u8 0, .int .u8 0, .int .u8 0, .int .u8 0, .int .u8 0, .int .u8 0, .int .u8 0, .int .u8 0, .int .u8 0, .int .u8 0, .int .u8 0, .int .u8 0, .int .u8 0, .int .u8 0, .int .u8 0, .int .u8 0, .int .u8 0, .int .u8 0, .int .u8 0, .int .u8 0, .int .u8 0, .int .u8 0, .int .u8 0, .int .u8 0, .int .u8 0, .int .u8 0, .int .u8 0, .int .u8 0, .int .i64 0] 89)).setCells w2.heap.size 0 x) := mod_new ((Mod.refl no w2).alloc _) m6 (Nat.le_refl _)
         have H3 := Lib.hid (And.intro (H2.out.1.mod m6' (fun c => c)) (And.intro (H2.out.2.1.and_then m6') (And.intro b6 (And.intro (H2.out.2.2.1.mod m6' (fun c => c)) (H2.out.2.2.2.mod_no m6')))))
         have hs3 : w2.heap.size < ((w2.alloc (.cells #[.int .u8 0, .int .u8 0, .int .u8 0, .int .u8 0, .int .u8 0, .int .u8 0, .int .u8 0, .int .u8 0, .int .u8 0, .int .u8 0, .int .u8 0, .int .u8 0, .int .u8 0, .int .u8 0, .int .u8 0, .int .u8 0, .int .u8 0, .int .u8 0, .int .u8 0, .int .u8 0, .int .u8 0, .int .u8 0, .int .u8 0, .int .u8 0, .int .u8 0, .int .u8 0, .int .u8 0, .int .u8 0, .int .u8 0, .int .u8 0, .int .u8 0, .int .u8 0, .int .i64 0] 89)).setCells w2.heap.size 0 x).heap.size := b6.lt
         have c3 := H3.out.2.2.2.1.cell 0
         have f3 := H3.out.2.2.2.1.free 0
         simp at c3
         clear b6 m6 m6'
         generalize (w2.alloc (.cells #[.int .u8 0, .int .u8 0, .int .u8 0, .int .u8 0, .int .u8 0, .int .u8 0, .int .u8 0, .int .u8 0, .int .u8 0, .int .u8 0, .int .u8 0, .int .u8 0, .int .u8 0, .int .u8 0, .int .u8 0, .int .u8 0, .int .u8 0, .int .u8 0, .int .u8 0, .int .u8 0, .int .u8 0, .int .u8 0, .int .u8 0, .int .u8 0, .int .u8 0, .int .u8 0, .int .u8 0, .int .u8 0, .int .u8 0, .int .u8 0, .int .u8 0, .int .u8 0, .int .i64 0] 89)).setCells w2.heap.size 0 x = w3 at *))
    refine (greys_any (A := some ⟨b, o, none⟩) (L := []) (c := 0) (Src.nil _ _) (by have := HP.out.2.1; omega)).mono ?_
    rintro e w4 ⟨v, rfl, hown, m4⟩
    obtain ⟨A4, c4, rfl⟩ : ∃ A c, v = .slice A 0 c := own_form hown
    have hb4 := H3.out.2.2.2.1.mod m4 (fun c => c)
    have c4' := hb4.cell 0
    have f4 := hb4.free 0
    simp at c4'
    have hN : RNew w3 (w4.setCell ⟨r, 0, none⟩ (.slice A4 0 c4)) r [] := RNew.laid hown HE.out hb4 (by omega) (Nat.le_refl _)
    have hv4 := (H3.out.1.mod m4 (fun c => c)).far (p := ⟨r, 0, none⟩) (show w.heap.size ≠ r by omega) (.slice A4 0 c4)
    have hx4 := (H3.out.2.2.1.mod m4 (fun c => c)).far (p := ⟨r, 0, none⟩) (show w2.heap.size ≠ r by omega) (.slice A4 0 c4)
    have mm := ((H3.out.2.1.and_then m4).mono (S' := one r) (fun _ _ c => c.elim)).set (p := ⟨r, 0, none⟩) (fun _ => rfl) (.slice A4 0 c4)
    have H4 := Lib.hid (And.intro hN (And.intro hv4 (And.intro hx4 mm)))
    clear hown hb4 hN hv4 hx4 mm m4
    go_wp2_with (first
      | (refine wpList_load_mid rfl 89 (.tmp 6) rfl w2.heap.size 0 rfl x _ (var_range H4.out.2.2.1) Try.underlying89 rfl (grey_info HP.out.1.1) ?_
         generalize w4.setCell ⟨r, 0, none⟩ (.slice A4 0 c4) = w5 at *)
      | (refine wpList_store_mid rfl 89 (.tmp 4) (.tmp 42) rfl w.heap.size 0 x.toArray rfl rfl (by rw [ele_size HP.out.1]; exact var_there H4.out.2.1 rfl) (ele_info HP.out.1) (ele_one HP.out.1) ?_
         simp only [List.toList_toArray]
         have hset := var_set H4.out.2.1 rfl HP.out.1
         have H5 := Lib.hid (And.intro hset.1 (And.intro (mod_new H4.out.2.2.2 hset.2 (Nat.le_refl _)) ((RNew.mod H4.out.1 hset.2 (fun c => by have c : r = w.heap.size := c; omega) (fun b hb c => by have c : b = w.heap.size := c; omega)).weak (w0 := w) (w1 := w3) (by omega))))
         clear hset
         generalize w5.setCells w.heap.size 0 x = w6 at *))
    exact grey_done HP.out.1.1 (var_range H5.out.1) _ rfl rfl rfl _ Try.results45 _ ⟨rfl, H5.out.2.2, H5.out.2.1⟩
  · have hc2 : ¬ c - 1 = 0 := by have := HP.out.2.2; omega
    go_wp2_with (first
      | (refine wpList_store_mid rfl 89 (.tmp 6) (.tmp 12) rfl w2.heap.size 0 x.toArray rfl rfl (by rw [ele_size HP.out.1]; exact var_there (Blk.new w2 89 zl.toArray) rfl) (ele_info HP.out.1) (ele_one HP.out.1) ?_
         simp only [List.toList_toArray]
         obtain ⟨b6, m6⟩ := var_set (show Blk (w2.alloc (.cells #[.int .u8 0, .int .u8 0, .int .u8 0, .int .u8 0, .int .u8 0, .int .u8 0, .int .u8 0, .int .u8 0, .int .u8 0, .int .u8 0, .int .u8 0, .int .u8 0, .int .u8 0, .int .u8 0, .int .u8 0, .int .u8 0, .int .u8 0, .int .u8 0, .int .u8 0, .int .u8 0, .int .u8 0, .int .u8 0, .int .u8 0, .int .u8 0, .int .u8 0, .int .u8 0, .int .u8 0, .int .u8 0, .int .u8 0, .int .u8 0, .int .u8 0, .int .u8 0, .int .i64 0] 89)) w2.heap.size 89 zl.toArray from Blk.new w2 89 #[.int .u8 0, .int .u8 0, .int .u8 0, .int .u8 0, .int .u8 0, .int .u8 0, .int .u8 0, .int .u8 0, .int .u8 0, .int .u8 0, .int .u8 0, .int .u8 0, .int .u8 0, .int .u8 0, .int .u8 0, .int .u8 0, .int .u8 0, .int .u8 0, .int .u8 0, .int .u8 0, .int .u8 0, .int .u8 0, .int .u8 0, .int .u8 0, .int .u8 0, .int .u8 0, .int .u8 0, .int .u8 0, .int .u8 0, .int .u8 0, .int .u8 0, .int .u8 0, .int .i64 0]) rfl HP.out.1
         have m6' : Mod no w2 ((w2.alloc (.cells #[.int .u8 0, .int .u8 0, .int .u8 0, .int .u8 0, .int .u8 0, .int .u8 0, .int .u8 0, .int .u8 0, .int .u8 0, .int .u8 0, .int .u8 0, .int .u8 0, .int .u8 0, .int .u8 0, .int .u8 0, .int .u8 0, .int .u8 0, .int .u8 0, .int .u8 0, .int .u8 0, .int .u8 0, .int .u8 0, .int .u8 0, .int .u8 0, .int .u8 0, .int .u8 0, .int .u8 0, .int .u8 0, .int .u8 0, .int .u8 0, .int .u8 0, .int .u8 0, .int .i64 0] 89)).setCells w2.heap.size 0 x) := mod_new ((Mod.refl no w2).alloc _) m6 (Nat.le_refl _)
         have H3 := Lib.hid (And.intro (H2.out.1.mod m6' (fun c => c)) (And.intro (H2.out.2.1.and_then m6') (And.intro b6 (And.intro (H2.out.2.2.1.mod m6' (fun c => c)) (H2.out.2.2.2.mod_no m6')))))
         have hs3 : w2.heap.size < ((w2.alloc (.cells #[.int .u8 0, .int .u8 0, .int .u8 0, .int .u8 0, .int .u8 0, .int .u8 0, .int .u8 0, .int .u8 0, .int .u8 0, .int .u8 0, .int .u8 0, .int .u8 0, .int .u8 0, .int .u8 0, .int .u8 0, .int .u8 0, .int .u8 0, .int .u8 0, .int .u8 0, .int .u8 0, .int .u8 0, .int .u8 0, .int .u8 0, .int .u8 0, .int .u8 0, .int .u8 0, .int .u8 0, .int .u8 0, .int .u8 0, .int .u8 0, .int .u8 0, .int .u8 0, .int .i64 0] 89)).setCells w2.heap.size 0 x).heap.size := b6.lt
         have c3 := H3.out.2.2.2.1.cell 0
         have f3 := H3.out.2.2.2.1.free 0
         simp at c3
         clear b6 m6 m6'
         generalize (w2.alloc (.cells #[.int .u8 0, .int .u8 0, .int .u8 0, .int .u8 0, .int .u8 0, .int .u8 0, .int .u8 0, .int .u8 0, .int .u8 0, .int .u8 0, .int .u8 0, .int .u8 0, .int .u8 0, .int .u8 0, .int .u8 0, .int .u8 0, .int .u8 0, .int .u8 0, .int .u8 0, .int .u8 0, .int .u8 0, .int .u8 0, .int .u8 0, .int .u8 0, .int .u8 0, .int .u8 0, .int .u8 0, .int .u8 0, .int .u8 0, .int .u8 0, .int .u8 0, .int .u8 0, .int .i64 0] 89)).setCells w2.heap.size 0 x = w3 at *))
    refine (greys_any (A := some ⟨b, o + 33, none⟩) (L := L) (c := c - 1) (H3.out.2.2.2.2.tail) (by have := HP.out.2.1; omega)).mono ?_
    rintro e w4 ⟨v, rfl, hown, m4⟩
    obtain ⟨A4, c4, rfl⟩ := own_form hown
    have hb4 := H3.out.2.2.2.1.mod m4 (fun c => c)
    have c4' := hb4.cell 0
    have f4 := hb4.free 0
    simp at c4'
    have hN : RNew w3 (w4.setCell ⟨r, 0, none⟩ (.slice A4 L.length c4)) r L := RNew.laid hown HE.out hb4 (by omega) (Nat.le_refl _)
    have hv4 := (H3.out.1.mod m4 (fun c => c)).far (p := ⟨r, 0, none⟩) (show w.heap.size ≠ r by omega) (.slice A4 L.length c4)
    have hx4 := (H3.out.2.2.1.mod m4 (fun c => c)).far (p := ⟨r, 0, none⟩) (show w2.heap.size ≠ r by omega) (.slice A4 L.length c4)
    have mm := ((H3.out.2.1.and_then m4).mono (S' := one r) (fun _ _ c => c.elim)).set (p := ⟨r, 0, none⟩) (fun _ => rfl) (.slice A4 L.length c4)
    have H4 := Lib.hid (And.intro hN (And.intro hv4 (And.intro hx4 mm)))
    clear hown hb4 hN hv4 hx4 mm m4
    go_wp2_with (first
      | (refine wpList_load_mid rfl 89 (.tmp 6) rfl w2.heap.size 0 rfl x _ (var_range H4.out.2.2.1) Try.underlying89 rfl (grey_info HP.out.1.1) ?_
         generalize w4.setCell ⟨r, 0, none⟩ (.slice A4 L.length c4) = w5 at *)
      | (refine wpList_store_mid rfl 89 (.tmp 4) (.tmp 42) rfl w.heap.size 0 x.toArray rfl rfl (by rw [ele_size HP.out.1]; exact var_there H4.out.2.1 rfl) (ele_info HP.out.1) (ele_one HP.out.1) ?_
         simp only [List.toList_toArray]
         have hset := var_set H4.out.2.1 rfl HP.out.1
         have H5 := Lib.hid (And.intro hset.1 (And.intro (mod_new H4.out.2.2.2 hset.2 (Nat.le_refl _)) ((RNew.mod H4.out.1 hset.2 (fun c => by have c : r = w.heap.size := c; omega) (fun b hb c => by have c : b = w.heap.size := c; omega)).weak (w0 := w) (w1 := w3) (by omega))))
         clear hset
         generalize w5.setCells w.heap.size 0 x = w6 at *))
    exact grey_done HP.out.1.1 (var_range H5.out.1) _ rfl rfl rfl _ Try.results45 _ ⟨rfl, H5.out.2.2, H5.out.2.1⟩

set_option maxRecDepth 100000 in
set_option maxHeartbeats 4000000 in
theorem rpop_top {w : World} {r : Nat} {A : Option Addr} {L : List (List Value)} {x : List Value} (h : RAt w r A (L ++ [x])) (hL : L.length ≤ 1048500) :
    Calls Try.prog 45 #[.pointer (some ⟨r, 0, none⟩), .bool false] w fun e w' => e = .returned (.tuple #[.agg x.toArray, .bool true]) ∧ RNew w w' r L ∧ Mod (one r) w w' := by
  have m1 : Mod no w (w.alloc (.cells #[.int .u8 0, .int .u8 0, .int .u8 0, .int .u8 0, .int .u8 0, .int .u8 0, .int .u8 0, .int .u8 0, .int .u8 0, .int .u8 0, .int .u8 0, .int .u8 0, .int .u8 0, .int .u8 0, .int .u8 0, .int .u8 0, .int .u8 0, .int .u8 0, .int .u8 0, .int .u8 0, .int .u8 0, .int .u8 0, .int .u8 0, .int .u8 0, .int .u8 0, .int .u8 0, .int .u8 0, .int .u8 0, .int .u8 0, .int .u8 0, .int .u8 0, .int .u8 0, .int .i64 0] 89)) := (Mod.refl no w).alloc _
  obtain ⟨c, hb, hs, hc⟩ := id h.at_
  obtain ⟨b, o, rfl, hbl, hbr⟩ := hs.at_ (by simp)
  clear hbl hbr
  have hel := hs.e x (by simp)
  have hrl := hb.lt
  have hlen : (L ++ [x]).length = L.length + 1 := by simp
  rw [hlen] at hb hc
  have H0 := Lib.hid (And.intro (h.mod_no m1) (And.intro (show Blk (w.alloc (.cells #[.int .u8 0, .int .u8 0, .int .u8 0, .int .u8 0, .int .u8 0, .int .u8 0, .int .u8 0, .int .u8 0, .int .u8 0, .int .u8 0, .int .u8 0, .int .u8 0, .int .u8 0, .int .u8 0, .int .u8 0, .int .u8 0, .int .u8 0, .int .u8 0, .int .u8 0, .int .u8 0, .int .u8 0, .int .u8 0, .int .u8 0, .int .u8 0, .int .u8 0, .int .u8 0, .int .u8 0, .int .u8 0, .int .u8 0, .int .u8 0, .int .u8 0, .int .u8 0, .int .i64 0] 89)) w.heap.size 89 zl.toArray from Blk.new w 89 #[.int .u8 0, .int .u8 0, .int .u8 0, .int .u8 0, .int .u8 0, .int .u8 0, .int .u8 0, .int .u8 0, .int .u8 0, .int .u8 0, .int .u8 0, .int .u8 0, .int .u8 0, .int .u8 0, .int .u8 0, .int .u8 0, .int .u8 0, .int .u8 0, .int .u8 0, .int .u8 0, .int .u8 0, .int .u8 0, .int .u8 0, .int .u8 0, .int .u8 0, .int .u8 0, .int .u8 0, .int .u8 0, .int .u8 0, .int .u8 0, .int .u8 0, .int .u8 0, .int .i64 0]) (And.intro m1 (And.intro (hb.mod m1 (fun c => c)) (hs.mod_no m1)))))
  have HP := Lib.hid (And.intro hel (And.intro hL hc))
  have hL1 : (L ++ [x]).length ≤ 1048600 := by rw [hlen]; omega
  have hx1 : (L ++ [x])[endN false (L ++ [x]).length]? = some x := by rw [hlen]; simp [endN]
  have hw64 : wrap64 (L.length : Int) = (L.length : Int) := IntWalk.wrap64_in _ (by omega)
  have hw64' : wrap64 ((L.length : Int) + 1 - 1) = (L.length : Int) := by rw [show (L.length : Int) + 1 - 1 = (L.length : Int) by omega]; exact hw64
  have hwk : IntKind.i64.wrap (L.length : Int) = (L.length : Int) := IntWalk.i64_in _ (by omega)
  have hwk' : IntKind.i64.wrap ((L.length : Int) + 1 - 1) = (L.length : Int) := by rw [show (L.length : Int) + 1 - 1 = (L.length : Int) by omega]; exact hwk
  have hcc : (L.length : Int) ≤ (c : Int) := by omega
  have hcc' : L.length ≤ c := by omega
  have hc0 : ¬ c = 0 := by omega
  have hll : (0 : Int) ≤ (L.length : Int) := by omega
  clear m1 h hb hs hel hlen
  go_enter Try.func45, Try.ntmps45
  go_wp2_with fail
  generalize w.alloc (.cells #[.int .u8 0, .int .u8 0, .int .u8 0, .int .u8 0, .int .u8 0, .int .u8 0, .int .u8 0, .int .u8 0, .int .u8 0, .int .u8 0, .int .u8 0, .int .u8 0, .int .u8 0, .int .u8 0, .int .u8 0, .int .u8 0, .int .u8 0, .int .u8 0, .int .u8 0, .int .u8 0, .int .u8 0, .int .u8 0, .int .u8 0, .int .u8 0, .int .u8 0, .int .u8 0, .int .u8 0, .int .u8 0, .int .u8 0, .int .u8 0, .int .u8 0, .int .u8 0, .int .i64 0] 89) = w1 at *
  refine (rat_has H0.out.1 hL1 hx1).mono ?_
  rintro e w2 ⟨rfl, m2⟩
  have hs1 := H0.out.2.2.1.size
  have hs2 := m2.size
  have hwl := H0.out.2.1.lt
  have H2 := Lib.hid (And.intro (H0.out.2.1.mod m2 (fun c => c)) (And.intro (H0.out.2.2.1.and_then m2) (And.intro (H0.out.2.2.2.1.mod m2 (fun c => c)) (H0.out.2.2.2.2.mod_no m2))))
  clear m2
  have HE := Lib.hid (show ∀ y ∈ L, Ele y from fun y hy => H2.out.2.2.2.e y (by simp [hy]))
  go_wp2_with (first
    | (refine wpList_store_mid rfl 89 (.tmp 6) (.tmp 12) rfl w2.heap.size 0 x.toArray rfl rfl (by rw [ele_size HP.out.1]; exact var_there (Blk.new w2 89 zl.toArray) rfl) (ele_info HP.out.1) (ele_one HP.out.1) ?_
       simp only [List.toList_toArray]
       obtain ⟨b6, m6⟩ := var_set (show Blk (w2.alloc (.cells #[.int .u8 0, .int .u8 0, .int .u8 0, .int .u8 0, .int .u8 0, .int .u8 0, .int .u8 0, .int .u8 0, .int .u8 0, .int .u8 0, .int .u8 0, .int .u8 0, .int .u8 0, .int .u8 0, .int .u8 0, .int .u8 0, .int .u8 0, .int .u8 0, .int .u8 0, .int .u8 0, .int .u8 0, .int .u8 0, .int .u8 0, .int .u8 0, .int .u8 0, .int .u8 0, .int .u8 0, .int .u8 0, .int .u8 0, .int .u8 0, .int .u8 0, .int .u8 0, .int .i64 0] 89)) w2.heap.size 89 zl.toArray from Blk.new w2 89 #[.int .u8 0, .int .u8 0, .int .u8 0, .int .u8 0, .int .u8 0, .int .u8 0, .int .u8 0, .int .u8 0, .int .u8 0, .int .u8 0, .int .u8 0, .int .u8 0, .int .u8 0, .int .u8 0, .int .u8 0, .int .u8 0, .int .u8 0, .int .u8 0, .int .u8 0, .int .u8 0, .int .u8 0, .int .u8 0, .int .u8 0, .int .u8 0, .int .u8 0, .int .u8 0, .int .u8 0, .int .u8 0, .int .u8 0, .int .u8 0, .int .u8 0, .int .u8 0, .int .i64 0]) rfl HP.out.1
       have m6' : Mod no w2 ((w2.alloc (.cells #[.int .u8 0, .int .u8 0, .int .u8 0, .int .u8 0, .int .u8 0, .int .u8 0, .int .u8 0, .int .u8 0, .int .u8 0, .int .u8 0, .int .u8 0, .int .u8 0, .int .u8 0, .int .u8 0, .int .u8 0, .int .u8 0, .int .u8 0, .int .u8 0, .int .u8 0, .int .u8 0, .int .u8 0, .int .u8 0, .int .u8 0, .int .u8 0, .int .u8 0, .int .u8 0, .int .u8 0, .int .u8 0, .int .u8 0, .int .u8 0, .int .u8 0, .int .u8 0, .int .i64 0] 89)).setCells w2.heap.size 0 x) := mod_new ((Mod.refl no w2).alloc _) m6 (Nat.le_refl _)
       have H3 := Lib.hid (And.intro (H2.out.1.mod m6' (fun c => c)) (And.intro (H2.out.2.1.and_then m6') (And.intro b6 (And.intro (H2.out.2.2.1.mod m6' (fun c => c)) (H2.out.2.2.2.mod_no m6')))))
       have hs3 : w2.heap.size < ((w2.alloc (.cells #[.int .u8 0, .int .u8 0, .int .u8 0, .int .u8 0, .int .u8 0, .int .u8 0, .int .u8 0, .int .u8 0, .int .u8 0, .int .u8 0, .int .u8 0, .int .u8 0, .int .u8 0, .int .u8 0, .int .u8 0, .int .u8 0, .int .u8 0, .int .u8 0, .int .u8 0, .int .u8 0, .int .u8 0, .int .u8 0, .int .u8 0, .int .u8 0, .int .u8 0, .int .u8 0, .int .u8 0, .int .u8 0, .int .u8 0, .int .u8 0, .int .u8 0, .int .u8 0, .int .i64 0] 89)).setCells w2.heap.size 0 x).heap.size := b6.lt
       have c3 := H3.out.2.2.2.1.cell 0
       have f3 := H3.out.2.2.2.1.free 0
       simp at c3
       clear b6 m6 m6'
       generalize (w2.alloc (.cells #[.int .u8 0, .int .u8 0, .int .u8 0, .int .u8 0, .int .u8 0, .int .u8 0, .int .u8 0, .int .u8 0, .int .u8 0, .int .u8 0, .int .u8 0, .int .u8 0, .int .u8 0, .int .u8 0, .int .u8 0, .int .u8 0, .int .u8 0, .int .u8 0, .int .u8 0, .int .u8 0, .int .u8 0, .int .u8 0, .int .u8 0, .int .u8 0, .int .u8 0, .int .u8 0, .int .u8 0, .int .u8 0, .int .u8 0, .int .u8 0, .int .u8 0, .int .u8 0, .int .i64 0] 89)).setCells w2.heap.size 0 x = w3 at *))
  clear hx1 hL1 hL hc hcc'
  have hSI := Lib.hid ((H3.out.2.2.2.2.mod_no ((Mod.refl no w3).drew)).init)
  go_region_with (first | (go_at_call 76
                           refine (greys_any (A := some ⟨b, o, none⟩) (L := L) (c := c) hSI.out (by have := HP.out.2.1; omega)).mono ?_
                           rintro e w4 ⟨v, rfl, hown, m4⟩
                           obtain ⟨A4, c4, rfl⟩ := own_form hown
                           have hb4 := (H3.out.2.2.2.1.mod ((Mod.refl no w3).drew) (fun c => c)).mod m4 (fun c => c)
                           have c4' := hb4.cell 0
                           have f4 := hb4.free 0
                           simp at c4'
                           have HO := Lib.hid (And.intro hown (And.intro (((Mod.refl no w3).drew).and_then m4) hb4))
                           clear hown m4 hb4))
  all_goals
    have hN : RNew w3 (w4.setCell ⟨r, 0, none⟩ (.slice A4 L.length c4)) r L := RNew.laid HO.out.1 HE.out HO.out.2.2 (show r < w3.heap.size by omega) (Nat.le_refl _)
    have hv4 := (H3.out.1.mod HO.out.2.1 (fun c => c)).far (p := ⟨r, 0, none⟩) (show w.heap.size ≠ r by omega) (.slice A4 L.length c4)
    have hx4 := (H3.out.2.2.1.mod HO.out.2.1 (fun c => c)).far (p := ⟨r, 0, none⟩) (show w2.heap.size ≠ r by omega) (.slice A4 L.length c4)
    have mm := ((H3.out.2.1.and_then HO.out.2.1).mono (S' := one r) (fun _ _ c => c.elim)).set (p := ⟨r, 0, none⟩) (fun _ => rfl) (.slice A4 L.length c4)
    have H4 := Lib.hid (And.intro hN (And.intro hv4 (And.intro hx4 mm)))
    clear hN hv4 hx4 mm
    go_wp2_with (first
      | (refine wpList_load_mid rfl 89 (.tmp 6) rfl w2.heap.size 0 rfl x _ (var_range H4.out.2.2.1) Try.underlying89 rfl (grey_info HP.out.1.1) ?_
         generalize w4.setCell ⟨r, 0, none⟩ (.slice A4 L.length c4) = w5 at *)
      | (refine wpList_store_mid rfl 89 (.tmp 4) (.tmp 42) rfl w.heap.size 0 x.toArray rfl rfl (by rw [ele_size HP.out.1]; exact var_there H4.out.2.1 rfl) (ele_info HP.out.1) (ele_one HP.out.1) ?_
         simp only [List.toList_toArray]
         have hset := var_set H4.out.2.1 rfl HP.out.1
         have H5 := Lib.hid (And.intro hset.1 (And.intro (mod_new H4.out.2.2.2 hset.2 (Nat.le_refl _)) ((RNew.mod H4.out.1 hset.2 (fun c => by have c : r = w.heap.size := c; omega) (fun b hb c => by have c : b = w.heap.size := c; omega)).weak (w0 := w) (w1 := w3) (by omega))))
         clear hset
         generalize w5.setCells w.heap.size 0 x = w6 at *))
    exact grey_done HP.out.1.1 (var_range H5.out.1) _ rfl rfl rfl _ Try.results45 _ ⟨rfl, H5.out.2.2, H5.out.2.1⟩

end Go.Proofs.Ytknbehjhaaidoaa.DG
