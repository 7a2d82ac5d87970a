/- An index made, a work list made (printed by marknil4.py). -/
import Derived.Test.YtcpflggjolkjgaaGreatDoorMnC
namespace Go.Proofs.YtcpflggjolkjgaaGreatDoor.MN
open Go.RowKit Mem HD
set_option linter.unusedVariables false
set_option linter.unusedSimpArgs false

theorem wpList_mk2 {ops : Array Oper} {rest : List Oper} {o : Oper} {a : Act} {w : World} {Q : Exit → Act → World → Prop} (hgd : o.guard = none) (t e : TypeId) (x y : Operand) (n size : Nat) (ho : o.op = .makeSlice t x y) (hx : a.eval x = .int .i64 (n : Int)) (hy : a.eval y = .int .i64 (n : Int)) (ht : Tryz.prog.underlying t = some (.slice e))
    (hi : (Tryz.prog.info? e).map (fun i => (i.size, decide (i.bytes ≤ 1000), i.zero.isSome)) = some (size, true, true)) (hn : n ≤ 100000) (hs : 0 < size)
    (hK : ∀ w', Mod no w w' → wpList Tryz.prog ops Q rest (a.put o.dst (.slice (some ⟨w.heap.size, 0, none⟩) n n)) w') : wpList Tryz.prog ops Q (o :: rest) a w :=
  wpList_plain hgd fun K hK' => op_make ho hx hy ht hi hn hs (fun cs w' _ _ h3 => hK' _ _ (hK w' h3))
set_option maxRecDepth 100000 in
theorem slot_info : (Tryz.prog.info? 142).map (fun i => (i.size, decide (i.bytes ≤ 1000), i.zero.isSome)) = some (37, true, true) := by kernel_rfl
set_option maxRecDepth 100000 in
theorem grey_infoB : (Tryz.prog.info? 99).map (fun i => (i.size, decide (i.bytes ≤ 1000), i.zero.isSome)) = some (33, true, true) := by kernel_rfl
set_option maxRecDepth 100000 in
set_option maxHeartbeats 1000000 in
theorem narray_m {w : World} : Calls Tryz.prog 25 #[.int .i64 8] w fun e w' => ∃ p, e = .returned (.pointer (some ⟨p, 0, none⟩)) ∧ Mod no w w' := by
  go_enter Tryz.func25, Tryz.ntmps25
  go_wp2_with (first
    | (refine wpList_mk2 rfl 107 142 (.tmp 3) (.tmp 3) 8 37 rfl rfl rfl Tryz.underlying107 slot_info (by decide) (by decide) ?_
       intro w1 m1
       have H1 := Lib.hid m1
       clear m1))
  go_ret
  exact ⟨_, rfl, H1.out.alloc _⟩
set_option maxRecDepth 100000 in
set_option maxHeartbeats 1000000 in
theorem tnew_m {w : World} : Calls Tryz.prog 12 #[.func (.func 13) #[] #[]] w fun e w' => ∃ p, e = .returned (.pointer (some ⟨p, 0, none⟩)) ∧ Mod no w w' := by
  have hq : (binOp .eql 71 (.func (.func 13) #[] #[]) .nilFunc).run Tryz.prog w = .ok (.bool false) w := by kernel_rfl
  go_enter Tryz.func12, Tryz.ntmps12
  go_wp2_with fail
  refine narray_m.mono ?_
  rintro e w1 ⟨p, rfl, m1⟩
  have H1 := Lib.hid m1
  clear m1
  go_wp2_with fail
  go_ret
  exact ⟨_, rfl, H1.out.alloc _⟩
set_option maxRecDepth 100000 in
set_option maxHeartbeats 1000000 in
theorem ndeque_m {w : World} : Calls Tryz.prog 26 #[.slice none 0 0] w fun e w' => ∃ p, e = .returned (.pointer (some ⟨p, 0, none⟩)) ∧ Mod no w w' := by
  go_enter Tryz.func26, Tryz.ntmps26
  go_wp2_with (first
    | (refine wpList_mk2 rfl 88 99 (.const (.int .i64 8)) (.const (.int .i64 8)) 8 33 rfl rfl rfl Tryz.underlying88 grey_infoB (by decide) (by decide) ?_
       intro w1 m1
       have H1 := Lib.hid m1
       clear m1))
  generalize hW : w1.alloc _ = w2 at *
  have H2 := Lib.hid (show Mod no w w2 by rw [← hW]; exact H1.out.alloc _)
  clear hW
  go_loopw [5, 11] (fun (u5 i : Value) (wr : World) => i = .int .i64 0 ∧ wr = w2) (fun _ _ _ => 0)
  case atStart => exact ⟨rfl, rfl⟩
  case round =>
    obtain ⟨rfl, rfl⟩ := hrel
    go_wp2_with fail
    go_ret
    exact ⟨_, rfl, H2.out⟩
set_option maxRecDepth 100000 in
set_option maxHeartbeats 1000000 in
theorem gnew_m {w : World} : Calls Tryz.prog 14 #[] w fun e w' => ∃ p, e = .returned (.pointer (some ⟨p, 0, none⟩)) ∧ Mod no w w' := by
  go_enter Tryz.func14, Tryz.ntmps14
  go_wp2_with fail
  refine ndeque_m.mono ?_
  rintro e w1 ⟨p, rfl, m1⟩
  have H1 := Lib.hid m1
  clear m1
  go_wp2_with fail
  go_ret
  exact ⟨_, rfl, H1.out.alloc _⟩
section
variable {a : Act} {o : Oper} {w w' : World}
theorem y_tbl {x : Operand} {b : Nat} (ho : o.op = .fieldAddr 65 x 0) (hx : a.eval x = .pointer (some ⟨b, 0, none⟩)) : (execOp a.eval o).run Tryz.prog w = .ok (.value (.pointer (some ⟨b, 0, none⟩))) w := by
  generalize a.eval = ev at hx
  unfold execOp
  simp only [ho, hx]
  go_simp
set_option maxRecDepth 100000 in
theorem y_arr {x y : Operand} {b k : Nat} (ho : o.op = .indexAddr 63 x y) (hx : a.eval x = .pointer (some ⟨b, 0, none⟩)) (hy : a.eval y = .int .i64 (k : Int)) (hk : k < 16) : (execOp a.eval o).run Tryz.prog w = .ok (.value (.pointer (some ⟨b, k, none⟩))) w := by
  have hkn : (k : Int) < 16 := by omega
  generalize a.eval = ev at hx hy
  unfold execOp
  simp only [ho, hx, hy]
  go_simp
theorem op_storeT {K : Act → World → Prop} {Q : Exit → Act → World → Prop} {x y : Operand} {b o' : Nat} {A : Option Addr} {old : Value} (ho : o.op = .store 62 x y) (hx : a.eval x = .pointer (some ⟨b, o', none⟩)) (hy : a.eval y = .pointer A) (hc : w.cell? ⟨b, o', none⟩ = some old) (hf : w.frozen? ⟨b, o', none⟩ = false)
    (hK : K (a.put o.dst undef) (w.setCell ⟨b, o', none⟩ (.pointer A))) : Oper.wp Tryz.prog o a w K Q := by
  have h : (execOp a.eval o).run Tryz.prog w = .ok .skip (w.setCell ⟨b, o', none⟩ (.pointer A)) := by
    generalize a.eval = ev at hx hy
    unfold execOp
    simp only [ho, hx, hy]
    go_simp
  unfold Oper.wp
  rw [h]
  exact hK
theorem op_tnew {K : Act → World → Prop} {Q : Exit → Act → World → Prop} {t0 : TypeId} {R : Ending → World → Prop} (ho : o.op = .call { callee := .value (.func 12), args := #[.func 13], argTypes := #[t0] })
    (hC : Calls Tryz.prog 12 #[.func (.func 13) #[] #[]] w R) (hR : ∀ e w', R e w' → ∃ u, e = .returned u ∧ K (a.put o.dst u) w') : Oper.wp Tryz.prog o a w K Q := by
  have h : (execOp a.eval o).run Tryz.prog w = .ok (.enter 12 #[.func (.func 13) #[] #[]]) w := by
    have hf : a.eval (.func 12) = .func (.func 12) #[] #[] := rfl
    have hg : a.eval (.func 13) = .func (.func 13) #[] #[] := rfl
    generalize a.eval = ev at hf hg
    unfold execOp
    simp only [ho]
    go_simp
  unfold Oper.wp
  rw [h, Oper.upon_enter]
  refine hC.mono fun e w' hr => ?_
  obtain ⟨u, rfl, hk⟩ := hR e w' hr
  exact hk
end
def XIdx (w0 : World) (x : Nat) (i : Value) (wr : World) : Prop := ∃ k : Nat, k ≤ 16 ∧ i = .int .i64 (k : Int) ∧ Mod no w0 wr ∧ ∃ cs : List Value, Blk wr x 65 cs.toArray ∧ cs.length = 16
set_option maxRecDepth 100000 in
set_option maxHeartbeats 1000000 in
theorem inew_m {w : World} : Calls Tryz.prog 5 #[] w fun e w' => ∃ p, e = .returned (.pointer (some ⟨p, 0, none⟩)) ∧ Mod no w w' := by
  have hb : Blk (w.alloc (.cells #[.pointer none, .pointer none, .pointer none, .pointer none, .pointer none, .pointer none, .pointer none, .pointer none, .pointer none, .pointer none, .pointer none, .pointer none, .pointer none, .pointer none, .pointer none, .pointer none] 65)) w.heap.size 65 (List.replicate 16 (.pointer none)).toArray := Blk.new w 65 #[.pointer none, .pointer none, .pointer none, .pointer none, .pointer none, .pointer none, .pointer none, .pointer none, .pointer none, .pointer none, .pointer none, .pointer none, .pointer none, .pointer none, .pointer none, .pointer none]
  have hm : Mod no w (w.alloc (.cells #[.pointer none, .pointer none, .pointer none, .pointer none, .pointer none, .pointer none, .pointer none, .pointer none, .pointer none, .pointer none, .pointer none, .pointer none, .pointer none, .pointer none, .pointer none, .pointer none] 65)) := (Mod.refl no w).alloc _
  have H0 := Lib.hid (And.intro hb hm)
  clear hb hm
  go_enter Tryz.func5, Tryz.ntmps5
  go_wp2_with fail
  obtain ⟨x, hx⟩ : ∃ x, x = w.heap.size := ⟨_, rfl⟩
  have HX := Lib.hid hx
  rw [← hx] at H0 ⊢
  clear hx
  generalize w.alloc (.cells #[.pointer none, .pointer none, .pointer none, .pointer none, .pointer none, .pointer none, .pointer none, .pointer none, .pointer none, .pointer none, .pointer none, .pointer none, .pointer none, .pointer none, .pointer none, .pointer none] 65) = w1 at *
  go_loopw [2, 5] (fun (u2 i : Value) (wr : World) => XIdx w x i wr) (fun _ i _ => 16 - (intOf i).toNat)
  case atStart => exact ⟨0, by omega, rfl, H0.out.2, _, H0.out.1, by simp⟩
  case round =>
    clear H0
    obtain ⟨k, hk, rfl, M, cs, hb, hcl⟩ := hrel
    by_cases hkl : k < 16
    · have hj1 : (k : Int) < 16 := by omega
      have hw64 : wrap64 ((k : Int) + 1) = (k : Int) + 1 := IntWalk.wrap64_in _ (by omega)
      have H1 := Lib.hid (And.intro M (And.intro hb (And.intro hcl (show k < 16 from hkl))))
      clear hk M hb hcl hkl
      go_wp2_with fail
      refine wp_only ?_
      refine wp_region_held_drew (S := fun w' => (∃ cs : List Value, Blk w' x 65 cs.toArray ∧ cs.length = 16) ∧ Mod no w w') (by kernel_rfl) ⟨⟨cs, H1.out.2.1.drew, H1.out.2.2.1⟩, H1.out.1.drew⟩ (fun hHeld => ?_)
      refine takeD (i := 0) (d := some 8) (v := (.pointer (some ⟨x, 0, none⟩))) rfl (by kernel_rfl) (by kernel_rfl) (by kernel_rfl) rfl (fun _ _ _ h => h) (Or.inl ⟨by kernel_rfl, fun w9 hw => y_move rfl rfl⟩) hHeld ?_
      simp only [Act.put, List.setIfInBounds_toArray, List.set_cons_zero, List.set_cons_succ]
      refine takeD (i := 1) (d := some 9) (v := (.int .i64 (k : Int))) rfl (by kernel_rfl) (by kernel_rfl) (by kernel_rfl) rfl (fun _ _ _ h => h) (Or.inl ⟨by kernel_rfl, fun w9 hw => y_move rfl rfl⟩) hHeld ?_
      simp only [Act.put, List.setIfInBounds_toArray, List.set_cons_zero, List.set_cons_succ]
      refine takeD (i := 3) (d := some 11) (v := (.pointer (some ⟨x, 0, none⟩))) rfl (by kernel_rfl) (by kernel_rfl) (by kernel_rfl) rfl (fun _ _ _ h => h) (Or.inl ⟨by kernel_rfl, fun w9 hw => y_nil rfl rfl⟩) hHeld ?_
      simp only [Act.put, List.setIfInBounds_toArray, List.set_cons_zero, List.set_cons_succ]
      refine takeD (i := 4) (d := some 12) (v := (.pointer (some ⟨x, 0, none⟩))) rfl (by kernel_rfl) (by kernel_rfl) (by kernel_rfl) rfl (fun _ _ _ h => h) (Or.inl ⟨by kernel_rfl, fun w9 hw => y_tbl rfl rfl⟩) hHeld ?_
      simp only [Act.put, List.setIfInBounds_toArray, List.set_cons_zero, List.set_cons_succ]
      refine readyD (i := 2) (d := some 10) rfl (by kernel_rfl) rfl (by kernel_rfl) fun K hK => ?_
      refine op_tnew rfl tnew_m ?_
      rintro e w2 ⟨p, rfl, m2⟩
      refine ⟨_, rfl, hK _ _ ⟨(by obtain ⟨cs', h1, h2⟩ := hHeld.1; exact ⟨cs', h1.mod m2 (fun c => c), h2⟩), hHeld.2.and_then m2⟩ fun hHeld2 => ?_⟩
      clear hK K hHeld m2
      have hHeld := hHeld2
      clear hHeld2
      simp only [Act.put, List.setIfInBounds_toArray, List.set_cons_zero, List.set_cons_succ]
      refine takeD (i := 5) (d := some 13) (v := (.pointer (some ⟨x, k, none⟩))) rfl (by kernel_rfl) (by kernel_rfl) (by kernel_rfl) rfl (fun _ _ _ h => h) (Or.inl ⟨by kernel_rfl, fun w9 hw => y_arr rfl rfl rfl H1.out.2.2.2⟩) hHeld ?_
      simp only [Act.put, List.setIfInBounds_toArray, List.set_cons_zero, List.set_cons_succ]
      refine readyD (i := 6) (d := none) rfl (by kernel_rfl) rfl (by kernel_rfl) fun K hK => ?_
      obtain ⟨cs3, hb3, hl3⟩ := hHeld.1
      obtain ⟨old, hold⟩ : ∃ old, cs3[k]? = some old := ⟨_, List.getElem?_eq_getElem (by have := H1.out.2.2.2; omega)⟩
      have cg : w2.cell? ⟨x, k, none⟩ = some old := by rw [hb3.cell, List.getElem?_toArray]; exact hold
      have fg := hb3.free k
      have hp := hb3.put k (.pointer (some ⟨p, 0, none⟩))
      rw [List.setIfInBounds_toArray] at hp
      have hm3 : Mod no w (w2.setCell ⟨x, k, none⟩ (.pointer (some ⟨p, 0, none⟩))) := hHeld.2.set (p := ⟨x, k, none⟩) (fun h => absurd h (by show ¬ x < _; rw [HX.out]; exact Nat.lt_irrefl _)) _
      have hcs3 : ∃ cs : List Value, Blk (w2.setCell ⟨x, k, none⟩ (.pointer (some ⟨p, 0, none⟩))) x 65 cs.toArray ∧ cs.length = 16 := ⟨_, hp, by rw [List.length_set]; exact hl3⟩
      refine op_storeT rfl rfl rfl cg fg ?_
      refine hK _ _ ⟨hcs3, hm3⟩ fun _ => ?_
      have H3 := Lib.hid (And.intro hm3 hcs3)
      clear hK K hHeld hm3 hcs3 cg fg hb3 hl3 hold hp
      simp only [Act.put, List.setIfInBounds_toArray, List.set_cons_zero, List.set_cons_succ]
      refine wpAnyH_done (by kernel_rfl) ?_ _
      refine ret_out ?_
      generalize w2.setCell ⟨x, k, none⟩ (.pointer (some ⟨p, 0, none⟩)) = w3 at *
      go_wp2_with fail
      go_roundw
      case rel => exact ⟨k + 1, by have := H1.out.2.2.2; omega, by go_num, H3.out⟩
      case measure =>
        try rw [hw64]
        clear hw64
        have := H1.out.2.2.2
        show 16 - ((k : Int) + 1).toNat < 16 - ((k : Int)).toNat
        omega
    · obtain rfl : k = 16 := by omega
      have hj1 : ¬ ((16 : Nat) : Int) < 16 := by omega
      have H1 := Lib.hid M
      clear hk M hb hcl hkl
      go_wp2_with fail
      go_ret
      exact ⟨⟨x, rfl⟩, H1.out⟩

end Go.Proofs.YtcpflggjolkjgaaGreatDoor.MN
