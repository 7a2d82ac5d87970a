/- IndexExact: the texts ExE ExF ExG of this seat, one behind the other. -/
import Derived.Test.YtknbehjhaaidoaaM27
import Derived.Laws.Bits128
/- IndexExact's works; more operations. -/
namespace Go.Proofs.Ytknbehjhaaidoaa.IX
open Go.RowKit Go.Shelf Mem HD TB
set_option linter.unusedVariables false
set_option linter.unusedSimpArgs false
section
variable {a : Act} {o : Oper} {w : World} {N : Nat} {K : Act → World → Prop} {Q : Exit → Act → World → Prop} {R : Ending → World → Prop}
theorem op_c0 (hN : ∀ vs w, (callFunc N vs).run Try.prog w = .ok (.enter N vs) w) (ho : o.op = .call { callee := .value (.func N), args := #[], argTypes := #[] })
    (hC : Calls Try.prog N #[] w R) (hR : ∀ e w', R e w' → ∃ u, e = .returned u ∧ K (a.put o.dst u) w') : Oper.wp Try.prog o a w K Q := by
  have h : (execOp a.eval o).run Try.prog w = .ok (.enter N #[]) w := by
    have hf : a.eval (.func N) = .func (.func N) #[] #[] := rfl
    generalize a.eval = ev at hf
    unfold execOp
    simp only [ho]
    go_simp
  unfold Oper.wp
  rw [h, Oper.upon_enter]
  refine hC.mono fun e w' hr => ?_
  obtain ⟨u, rfl, hk⟩ := hR e w' hr
  exact hk
theorem y_eqnp {x : Operand} {p : Addr} (ho : o.op = .binOp .eql 49 x (.const (.pointer none)) 49) (hx : a.eval x = .pointer (some p)) : (execOp a.eval o).run Try.prog w = .ok (.value (.bool false)) w := by
  generalize hev : a.eval = ev at hx
  have hz : ev (.const (.pointer none)) = .pointer none := by rw [← hev]; rfl
  unfold execOp
  simp only [ho, hx, hz]
  go_simp
theorem y_fe1' {x : Operand} {b off : Nat} (ho : o.op = .fieldAddr 56 x 1) (hx : a.eval x = .pointer (some ⟨b, off, none⟩)) : (execOp a.eval o).run Try.prog w = .ok (.value (.pointer (some ⟨b, off + 2, none⟩))) w := by
  generalize a.eval = ev at hx
  unfold execOp
  simp only [ho, hx]
  go_simp
def k3 : Key := ⟨3 :: List.replicate 31 0, rfl⟩
theorem y_k3 (ho : o.op = .build 39 #[(0, .const (.int .u8 3))]) : (execOp a.eval o).run Try.prog w = .ok (.value (.agg k3.L.toArray)) w := by
  have h := run_build (P := Try.prog) w 39 #[(0, .int .u8 3)] k3.L.toArray (by kernel_rfl)
  have hz : a.eval (.const (.int .u8 3)) = .int .u8 3 := rfl
  generalize a.eval = ev at hz
  unfold execOp
  simp only [ho, hz, List.map_toArray, List.map_cons, List.map_nil, Sem.run_bind, h, Result.andThen_ok, Sem.run_pure]
end
theorem il8 : (IL fun _ => t8) = [] := by rfl
theorem small8 : ∀ i, i < 16 → ((fun _ => t8 : Nat → Tab Key Ent) i).L.length < 1073741824 := fun i _ => by show t8.L.length < 1073741824; decide
def e5 : Ent := ⟨0, 0, 5, 0⟩
set_option maxRecDepth 100000 in
theorem works_any (w : World) : Calls Try.prog 26 #[] w fun e w' => e = .returned (.bool true) ∧ Mod no w w' := by
  go_enter Try.func26, Try.ntmps26
  go_upto_region 2 with (first
    | (go_at_call 19; refine (ixnew_any _).mono ?_; rintro e w' ⟨g, P, Rs, rfl, hx, hm⟩; have HX := Lib.hid (And.intro hx hm); clear hx hm))
  refine HD.wl_begin ?_
  refine HD.wl_takeF (d := some 5) (v := (.pointer (some ⟨g, 0, none⟩))) (a' := ⟨List.toArray ((.bool false)::(.pointer (some ⟨g, 0, none⟩))::undef::undef::(.pointer (some ⟨g, 0, none⟩))::(.pointer (some ⟨g, 0, none⟩))::undef::undef::undef::undef::undef::undef::undef::undef::undef::undef::undef::undef::undef::undef::undef::undef::undef::undef::undef::undef::undef::undef::undef::undef::undef::[]), []⟩) (by kernel_rfl) rfl (by kernel_rfl) (y_move rfl rfl) ?_
  refine HD.wl_takeF (d := some 6) (v := (.bool false)) (a' := ⟨List.toArray ((.bool false)::(.pointer (some ⟨g, 0, none⟩))::undef::undef::(.pointer (some ⟨g, 0, none⟩))::(.pointer (some ⟨g, 0, none⟩))::(.bool false)::undef::undef::undef::undef::undef::undef::undef::undef::undef::undef::undef::undef::undef::undef::undef::undef::undef::undef::undef::undef::undef::undef::undef::undef::[]), []⟩) (by kernel_rfl) rfl (by kernel_rfl) (y_eqnp rfl rfl) ?_
  refine HD.wl_takeF (d := some 7) (v := (.bool false)) (a' := ⟨List.toArray ((.bool false)::(.pointer (some ⟨g, 0, none⟩))::undef::undef::(.pointer (some ⟨g, 0, none⟩))::(.pointer (some ⟨g, 0, none⟩))::(.bool false)::(.bool false)::undef::undef::undef::undef::undef::undef::undef::undef::undef::undef::undef::undef::undef::undef::undef::undef::undef::undef::undef::undef::undef::undef::undef::[]), []⟩) (by kernel_rfl) rfl (by kernel_rfl) (y_move rfl rfl) ?_
  refine HD.wl_takeF (d := some 8) (v := (.pointer (some ⟨g, 0, none⟩))) (a' := ⟨List.toArray ((.bool false)::(.pointer (some ⟨g, 0, none⟩))::undef::undef::(.pointer (some ⟨g, 0, none⟩))::(.pointer (some ⟨g, 0, none⟩))::(.bool false)::(.bool false)::(.pointer (some ⟨g, 0, none⟩))::undef::undef::undef::undef::undef::undef::undef::undef::undef::undef::undef::undef::undef::undef::undef::undef::undef::undef::undef::undef::undef::undef::[]), []⟩) (by kernel_rfl) rfl (by kernel_rfl) (y_move rfl rfl) ?_
  refine HD.wl_takeF (d := some 9) (v := (.agg k3.L.toArray)) (a' := ⟨List.toArray ((.bool false)::(.pointer (some ⟨g, 0, none⟩))::undef::undef::(.pointer (some ⟨g, 0, none⟩))::(.pointer (some ⟨g, 0, none⟩))::(.bool false)::(.bool false)::(.pointer (some ⟨g, 0, none⟩))::(.agg k3.L.toArray)::undef::undef::undef::undef::undef::undef::undef::undef::undef::undef::undef::undef::undef::undef::undef::undef::undef::undef::undef::undef::undef::[]), []⟩) (by kernel_rfl) rfl (by kernel_rfl) (y_k3 rfl) ?_
  refine HD.wl_takeF (d := some 10) (v := (.agg e5.L.toArray)) (a' := ⟨List.toArray ((.bool false)::(.pointer (some ⟨g, 0, none⟩))::undef::undef::(.pointer (some ⟨g, 0, none⟩))::(.pointer (some ⟨g, 0, none⟩))::(.bool false)::(.bool false)::(.pointer (some ⟨g, 0, none⟩))::(.agg k3.L.toArray)::(.agg e5.L.toArray)::undef::undef::undef::undef::undef::undef::undef::undef::undef::undef::undef::undef::undef::undef::undef::undef::undef::undef::undef::undef::[]), []⟩) (by kernel_rfl) rfl (by kernel_rfl) (y_eS (n := 5) rfl rfl) ?_
  refine HD.wl_callF (d := some 11) (v := (.bool true)) (a' := ⟨List.toArray ((.bool false)::(.pointer (some ⟨g, 0, none⟩))::undef::undef::(.pointer (some ⟨g, 0, none⟩))::(.pointer (some ⟨g, 0, none⟩))::(.bool false)::(.bool false)::(.pointer (some ⟨g, 0, none⟩))::(.agg k3.L.toArray)::(.agg e5.L.toArray)::(.bool true)::undef::undef::undef::undef::undef::undef::undef::undef::undef::undef::undef::undef::undef::undef::undef::undef::undef::undef::undef::[]), []⟩) (by kernel_rfl) rfl (by kernel_rfl) fun K hK => ?_
  refine op_c3 (fun _ _ => rfl) rfl rfl rfl rfl (ixput_any HX.out.1 small8 k3 e5) ?_
  rintro e w3 ⟨q, rfl, hq, ⟨T', hp, Rs', hx⟩, hm⟩
  have hq0 : q = none := found_nil (by rw [← il8]; exact hq)
  subst hq0
  have hp1 : (IL T').Perm [(k3, e5)] := by have h9 := hp; rw [il8] at h9; exact h9
  have H3 := Lib.hid (And.intro hx (And.intro hp1 (show Mod no w w3 from HX.out.2.trans hm (fun x hx c => by have := c.1; omega))))
  clear hq hp hx hm hp1
  refine ⟨_, rfl, hK _ ?_⟩
  clear hK K
  refine HD.wl_takeF (d := some 12) (v := (.bool false)) (a' := ⟨List.toArray ((.bool false)::(.pointer (some ⟨g, 0, none⟩))::undef::undef::(.pointer (some ⟨g, 0, none⟩))::(.pointer (some ⟨g, 0, none⟩))::(.bool false)::(.bool false)::(.pointer (some ⟨g, 0, none⟩))::(.agg k3.L.toArray)::(.agg e5.L.toArray)::(.bool true)::(.bool false)::undef::undef::undef::undef::undef::undef::undef::undef::undef::undef::undef::undef::undef::undef::undef::undef::undef::undef::[]), []⟩) (by kernel_rfl) rfl (by kernel_rfl) (y_not (b := true) rfl rfl) ?_
  refine HD.wl_takeF (d := some 13) (v := (.bool false)) (a' := ⟨List.toArray ((.bool false)::(.pointer (some ⟨g, 0, none⟩))::undef::undef::(.pointer (some ⟨g, 0, none⟩))::(.pointer (some ⟨g, 0, none⟩))::(.bool false)::(.bool false)::(.pointer (some ⟨g, 0, none⟩))::(.agg k3.L.toArray)::(.agg e5.L.toArray)::(.bool true)::(.bool false)::(.bool false)::undef::undef::undef::undef::undef::undef::undef::undef::undef::undef::undef::undef::undef::undef::undef::undef::undef::[]), []⟩) (by kernel_rfl) rfl (by kernel_rfl) (y_pick (b := false) rfl rfl rfl) ?_
  refine HD.wl_done ?_
  go_upto_region 4 with fail
  refine HD.wl_begin ?_
  refine HD.wl_takeF (d := some 15) (v := (.pointer (some ⟨g, 0, none⟩))) (a' := ⟨List.toArray ((.bool false)::(.pointer (some ⟨g, 0, none⟩))::undef::undef::(.pointer (some ⟨g, 0, none⟩))::(.pointer (some ⟨g, 0, none⟩))::(.bool false)::(.bool false)::(.pointer (some ⟨g, 0, none⟩))::(.agg k3.L.toArray)::(.agg e5.L.toArray)::(.bool true)::(.bool false)::(.bool false)::undef::(.pointer (some ⟨g, 0, none⟩))::undef::undef::undef::undef::undef::undef::undef::undef::undef::undef::undef::undef::undef::undef::undef::[]), []⟩) (by kernel_rfl) rfl (by kernel_rfl) (y_move rfl rfl) ?_
  refine HD.wl_takeF (d := some 16) (v := (.agg k3.L.toArray)) (a' := ⟨List.toArray ((.bool false)::(.pointer (some ⟨g, 0, none⟩))::undef::undef::(.pointer (some ⟨g, 0, none⟩))::(.pointer (some ⟨g, 0, none⟩))::(.bool false)::(.bool false)::(.pointer (some ⟨g, 0, none⟩))::(.agg k3.L.toArray)::(.agg e5.L.toArray)::(.bool true)::(.bool false)::(.bool false)::undef::(.pointer (some ⟨g, 0, none⟩))::(.agg k3.L.toArray)::undef::undef::undef::undef::undef::undef::undef::undef::undef::undef::undef::undef::undef::undef::[]), []⟩) (by kernel_rfl) rfl (by kernel_rfl) (y_k3 rfl) ?_
  refine HD.wl_callF (d := some 17) (v := (.tuple #[.agg e5.L.toArray, .bool true])) (a' := ⟨List.toArray ((.bool false)::(.pointer (some ⟨g, 0, none⟩))::undef::undef::(.pointer (some ⟨g, 0, none⟩))::(.pointer (some ⟨g, 0, none⟩))::(.bool false)::(.bool false)::(.pointer (some ⟨g, 0, none⟩))::(.agg k3.L.toArray)::(.agg e5.L.toArray)::(.bool true)::(.bool false)::(.bool false)::undef::(.pointer (some ⟨g, 0, none⟩))::(.agg k3.L.toArray)::(.tuple #[.agg e5.L.toArray, .bool true])::undef::undef::undef::undef::undef::undef::undef::undef::undef::undef::undef::undef::undef::[]), []⟩) (by kernel_rfl) rfl (by kernel_rfl) fun K hK => ?_
  refine op_c2 (fun _ _ => rfl) rfl rfl rfl (ixget_any H3.out.1 k3) ?_
  rintro e w5 ⟨⟨q, rfl, hf⟩, hm⟩
  have hq1 : q = some e5 := (hf e5).2 (H3.out.2.1.mem_iff.2 (by simp))
  subst hq1
  have HM5 := Lib.hid hm
  clear hf hm
  refine ⟨_, rfl, hK _ ?_⟩
  clear hK K
  refine HD.wl_takeF (d := some 14) (v := (.tuple #[.agg e5.L.toArray, .bool true])) (a' := ⟨List.toArray ((.bool false)::(.pointer (some ⟨g, 0, none⟩))::undef::undef::(.pointer (some ⟨g, 0, none⟩))::(.pointer (some ⟨g, 0, none⟩))::(.bool false)::(.bool false)::(.pointer (some ⟨g, 0, none⟩))::(.agg k3.L.toArray)::(.agg e5.L.toArray)::(.bool true)::(.bool false)::(.bool false)::(.tuple #[.agg e5.L.toArray, .bool true])::(.pointer (some ⟨g, 0, none⟩))::(.agg k3.L.toArray)::(.tuple #[.agg e5.L.toArray, .bool true])::undef::undef::undef::undef::undef::undef::undef::undef::undef::undef::undef::undef::undef::[]), []⟩) (by kernel_rfl) rfl (by kernel_rfl) (y_move rfl rfl) ?_
  refine HD.wl_takeF (d := some 18) (v := (.agg e5.L.toArray)) (a' := ⟨List.toArray ((.bool false)::(.pointer (some ⟨g, 0, none⟩))::undef::undef::(.pointer (some ⟨g, 0, none⟩))::(.pointer (some ⟨g, 0, none⟩))::(.bool false)::(.bool false)::(.pointer (some ⟨g, 0, none⟩))::(.agg k3.L.toArray)::(.agg e5.L.toArray)::(.bool true)::(.bool false)::(.bool false)::(.tuple #[.agg e5.L.toArray, .bool true])::(.pointer (some ⟨g, 0, none⟩))::(.agg k3.L.toArray)::(.tuple #[.agg e5.L.toArray, .bool true])::(.agg e5.L.toArray)::undef::undef::undef::undef::undef::undef::undef::undef::undef::undef::undef::undef::[]), []⟩) (by kernel_rfl) rfl (by kernel_rfl) (y_ext rfl rfl rfl) ?_
  refine HD.wl_takeF (d := some 19) (v := (.bool true)) (a' := ⟨List.toArray ((.bool false)::(.pointer (some ⟨g, 0, none⟩))::undef::undef::(.pointer (some ⟨g, 0, none⟩))::(.pointer (some ⟨g, 0, none⟩))::(.bool false)::(.bool false)::(.pointer (some ⟨g, 0, none⟩))::(.agg k3.L.toArray)::(.agg e5.L.toArray)::(.bool true)::(.bool false)::(.bool false)::(.tuple #[.agg e5.L.toArray, .bool true])::(.pointer (some ⟨g, 0, none⟩))::(.agg k3.L.toArray)::(.tuple #[.agg e5.L.toArray, .bool true])::(.agg e5.L.toArray)::(.bool true)::undef::undef::undef::undef::undef::undef::undef::undef::undef::undef::undef::[]), []⟩) (by kernel_rfl) rfl (by kernel_rfl) (y_ext rfl rfl rfl) ?_
  obtain ⟨h6, hh8⟩ : ∃ h6, h6 = w5.heap.size := ⟨_, rfl⟩
  refine HD.wl_takeF (d := some 2) (v := (.pointer (some ⟨h6, 0, none⟩))) (a' := ⟨List.toArray ((.bool false)::(.pointer (some ⟨g, 0, none⟩))::(.pointer (some ⟨h6, 0, none⟩))::undef::(.pointer (some ⟨g, 0, none⟩))::(.pointer (some ⟨g, 0, none⟩))::(.bool false)::(.bool false)::(.pointer (some ⟨g, 0, none⟩))::(.agg k3.L.toArray)::(.agg e5.L.toArray)::(.bool true)::(.bool false)::(.bool false)::(.tuple #[.agg e5.L.toArray, .bool true])::(.pointer (some ⟨g, 0, none⟩))::(.agg k3.L.toArray)::(.tuple #[.agg e5.L.toArray, .bool true])::(.agg e5.L.toArray)::(.bool true)::undef::undef::undef::undef::undef::undef::undef::undef::undef::undef::undef::[]), []⟩) (by kernel_rfl) rfl (by kernel_rfl) (by rw [hh8]; exact y_allocE rfl) ?_
  refine wl_entF (a' := ⟨List.toArray ((.bool false)::(.pointer (some ⟨g, 0, none⟩))::(.pointer (some ⟨h6, 0, none⟩))::undef::(.pointer (some ⟨g, 0, none⟩))::(.pointer (some ⟨g, 0, none⟩))::(.bool false)::(.bool false)::(.pointer (some ⟨g, 0, none⟩))::(.agg k3.L.toArray)::(.agg e5.L.toArray)::(.bool true)::(.bool false)::(.bool false)::(.tuple #[.agg e5.L.toArray, .bool true])::(.pointer (some ⟨g, 0, none⟩))::(.agg k3.L.toArray)::(.tuple #[.agg e5.L.toArray, .bool true])::(.agg e5.L.toArray)::(.bool true)::undef::undef::undef::undef::undef::undef::undef::undef::undef::undef::undef::[]), []⟩) rfl h6 e5 (by kernel_rfl) rfl (by kernel_rfl) rfl rfl (by rw [hh8]; exact Blk.new _ _ _) ?_
  have hF := fresh_ent2 w5 e5
  rw [← hh8] at hF
  obtain ⟨w6, hw8⟩ : ∃ w6, w6 = ((w5.alloc (.cells e0.L.toArray 56)).setCells h6 0 (e5.L)) := ⟨_, rfl⟩
  change HD.WL _ _ _ _ ((w5.alloc (.cells e0.L.toArray 56)).setCells h6 0 (e5.L))
  rw [← hw8] at hF ⊢
  clear hw8
  have H6 := Lib.hid (And.intro (HM5.out.and_then hF.1) hF.2)
  clear hF hh8
  refine HD.wl_takeF (d := some 3) (v := (.bool true)) (a' := ⟨List.toArray ((.bool false)::(.pointer (some ⟨g, 0, none⟩))::(.pointer (some ⟨h6, 0, none⟩))::(.bool true)::(.pointer (some ⟨g, 0, none⟩))::(.pointer (some ⟨g, 0, none⟩))::(.bool false)::(.bool false)::(.pointer (some ⟨g, 0, none⟩))::(.agg k3.L.toArray)::(.agg e5.L.toArray)::(.bool true)::(.bool false)::(.bool false)::(.tuple #[.agg e5.L.toArray, .bool true])::(.pointer (some ⟨g, 0, none⟩))::(.agg k3.L.toArray)::(.tuple #[.agg e5.L.toArray, .bool true])::(.agg e5.L.toArray)::(.bool true)::undef::undef::undef::undef::undef::undef::undef::undef::undef::undef::undef::[]), []⟩) (by kernel_rfl) rfl (by kernel_rfl) (y_assign rfl rfl) ?_
  refine HD.wl_done ?_
  go_upto_region 5 with fail
  refine HD.wl_begin ?_
  refine HD.wl_takeF (d := some 20) (v := (.bool true)) (a' := ⟨List.toArray ((.bool false)::(.pointer (some ⟨g, 0, none⟩))::(.pointer (some ⟨h6, 0, none⟩))::(.bool true)::(.pointer (some ⟨g, 0, none⟩))::(.pointer (some ⟨g, 0, none⟩))::(.bool false)::(.bool false)::(.pointer (some ⟨g, 0, none⟩))::(.agg k3.L.toArray)::(.agg e5.L.toArray)::(.bool true)::(.bool false)::(.bool false)::(.tuple #[.agg e5.L.toArray, .bool true])::(.pointer (some ⟨g, 0, none⟩))::(.agg k3.L.toArray)::(.tuple #[.agg e5.L.toArray, .bool true])::(.agg e5.L.toArray)::(.bool true)::(.bool true)::undef::undef::undef::undef::undef::undef::undef::undef::undef::undef::[]), []⟩) (by kernel_rfl) rfl (by kernel_rfl) (y_move rfl rfl) ?_
  refine HD.wl_takeF (d := some 21) (v := (.bool true)) (a' := ⟨List.toArray ((.bool false)::(.pointer (some ⟨g, 0, none⟩))::(.pointer (some ⟨h6, 0, none⟩))::(.bool true)::(.pointer (some ⟨g, 0, none⟩))::(.pointer (some ⟨g, 0, none⟩))::(.bool false)::(.bool false)::(.pointer (some ⟨g, 0, none⟩))::(.agg k3.L.toArray)::(.agg e5.L.toArray)::(.bool true)::(.bool false)::(.bool false)::(.tuple #[.agg e5.L.toArray, .bool true])::(.pointer (some ⟨g, 0, none⟩))::(.agg k3.L.toArray)::(.tuple #[.agg e5.L.toArray, .bool true])::(.agg e5.L.toArray)::(.bool true)::(.bool true)::(.bool true)::undef::undef::undef::undef::undef::undef::undef::undef::undef::[]), []⟩) (by kernel_rfl) rfl (by kernel_rfl) (y_move rfl rfl) ?_
  refine HD.wl_takeF (d := some 22) (v := (.pointer (some ⟨h6, 2, none⟩))) (a' := ⟨List.toArray ((.bool false)::(.pointer (some ⟨g, 0, none⟩))::(.pointer (some ⟨h6, 0, none⟩))::(.bool true)::(.pointer (some ⟨g, 0, none⟩))::(.pointer (some ⟨g, 0, none⟩))::(.bool false)::(.bool false)::(.pointer (some ⟨g, 0, none⟩))::(.agg k3.L.toArray)::(.agg e5.L.toArray)::(.bool true)::(.bool false)::(.bool false)::(.tuple #[.agg e5.L.toArray, .bool true])::(.pointer (some ⟨g, 0, none⟩))::(.agg k3.L.toArray)::(.tuple #[.agg e5.L.toArray, .bool true])::(.agg e5.L.toArray)::(.bool true)::(.bool true)::(.bool true)::(.pointer (some ⟨h6, 2, none⟩))::undef::undef::undef::undef::undef::undef::undef::undef::[]), []⟩) (by kernel_rfl) rfl (by kernel_rfl) (y_fe1' rfl rfl) ?_
  refine HD.wl_takeF (d := some 23) (v := (.int .i64 5)) (a' := ⟨List.toArray ((.bool false)::(.pointer (some ⟨g, 0, none⟩))::(.pointer (some ⟨h6, 0, none⟩))::(.bool true)::(.pointer (some ⟨g, 0, none⟩))::(.pointer (some ⟨g, 0, none⟩))::(.bool false)::(.bool false)::(.pointer (some ⟨g, 0, none⟩))::(.agg k3.L.toArray)::(.agg e5.L.toArray)::(.bool true)::(.bool false)::(.bool false)::(.tuple #[.agg e5.L.toArray, .bool true])::(.pointer (some ⟨g, 0, none⟩))::(.agg k3.L.toArray)::(.tuple #[.agg e5.L.toArray, .bool true])::(.agg e5.L.toArray)::(.bool true)::(.bool true)::(.bool true)::(.pointer (some ⟨h6, 2, none⟩))::(.int .i64 5)::undef::undef::undef::undef::undef::undef::undef::[]), []⟩) (by kernel_rfl) rfl (by kernel_rfl) (y_int rfl rfl (H6.out.2.cell 2)) ?_
  refine HD.wl_takeF (d := some 24) (v := (.bool true)) (a' := ⟨List.toArray ((.bool false)::(.pointer (some ⟨g, 0, none⟩))::(.pointer (some ⟨h6, 0, none⟩))::(.bool true)::(.pointer (some ⟨g, 0, none⟩))::(.pointer (some ⟨g, 0, none⟩))::(.bool false)::(.bool false)::(.pointer (some ⟨g, 0, none⟩))::(.agg k3.L.toArray)::(.agg e5.L.toArray)::(.bool true)::(.bool false)::(.bool false)::(.tuple #[.agg e5.L.toArray, .bool true])::(.pointer (some ⟨g, 0, none⟩))::(.agg k3.L.toArray)::(.tuple #[.agg e5.L.toArray, .bool true])::(.agg e5.L.toArray)::(.bool true)::(.bool true)::(.bool true)::(.pointer (some ⟨h6, 2, none⟩))::(.int .i64 5)::(.bool true)::undef::undef::undef::undef::undef::undef::[]), []⟩) (by kernel_rfl) rfl (by kernel_rfl) (y_eqi (d := true) (decide_eq_true rfl) rfl rfl rfl) ?_
  refine HD.wl_takeF (d := some 25) (v := (.bool true)) (a' := ⟨List.toArray ((.bool false)::(.pointer (some ⟨g, 0, none⟩))::(.pointer (some ⟨h6, 0, none⟩))::(.bool true)::(.pointer (some ⟨g, 0, none⟩))::(.pointer (some ⟨g, 0, none⟩))::(.bool false)::(.bool false)::(.pointer (some ⟨g, 0, none⟩))::(.agg k3.L.toArray)::(.agg e5.L.toArray)::(.bool true)::(.bool false)::(.bool false)::(.tuple #[.agg e5.L.toArray, .bool true])::(.pointer (some ⟨g, 0, none⟩))::(.agg k3.L.toArray)::(.tuple #[.agg e5.L.toArray, .bool true])::(.agg e5.L.toArray)::(.bool true)::(.bool true)::(.bool true)::(.pointer (some ⟨h6, 2, none⟩))::(.int .i64 5)::(.bool true)::(.bool true)::undef::undef::undef::undef::undef::[]), []⟩) (by kernel_rfl) rfl (by kernel_rfl) (y_pick (b := true) rfl rfl rfl) ?_
  refine HD.wl_takeF (d := some 26) (v := (.bool true)) (a' := ⟨List.toArray ((.bool false)::(.pointer (some ⟨g, 0, none⟩))::(.pointer (some ⟨h6, 0, none⟩))::(.bool true)::(.pointer (some ⟨g, 0, none⟩))::(.pointer (some ⟨g, 0, none⟩))::(.bool false)::(.bool false)::(.pointer (some ⟨g, 0, none⟩))::(.agg k3.L.toArray)::(.agg e5.L.toArray)::(.bool true)::(.bool false)::(.bool false)::(.tuple #[.agg e5.L.toArray, .bool true])::(.pointer (some ⟨g, 0, none⟩))::(.agg k3.L.toArray)::(.tuple #[.agg e5.L.toArray, .bool true])::(.agg e5.L.toArray)::(.bool true)::(.bool true)::(.bool true)::(.pointer (some ⟨h6, 2, none⟩))::(.int .i64 5)::(.bool true)::(.bool true)::(.bool true)::undef::undef::undef::undef::[]), []⟩) (by kernel_rfl) rfl (by kernel_rfl) (y_move rfl rfl) ?_
  refine HD.wl_takeF (d := some 27) (v := (.pointer (some ⟨g, 0, none⟩))) (a' := ⟨List.toArray ((.bool false)::(.pointer (some ⟨g, 0, none⟩))::(.pointer (some ⟨h6, 0, none⟩))::(.bool true)::(.pointer (some ⟨g, 0, none⟩))::(.pointer (some ⟨g, 0, none⟩))::(.bool false)::(.bool false)::(.pointer (some ⟨g, 0, none⟩))::(.agg k3.L.toArray)::(.agg e5.L.toArray)::(.bool true)::(.bool false)::(.bool false)::(.tuple #[.agg e5.L.toArray, .bool true])::(.pointer (some ⟨g, 0, none⟩))::(.agg k3.L.toArray)::(.tuple #[.agg e5.L.toArray, .bool true])::(.agg e5.L.toArray)::(.bool true)::(.bool true)::(.bool true)::(.pointer (some ⟨h6, 2, none⟩))::(.int .i64 5)::(.bool true)::(.bool true)::(.bool true)::(.pointer (some ⟨g, 0, none⟩))::undef::undef::undef::[]), []⟩) (by kernel_rfl) rfl (by kernel_rfl) (y_move rfl rfl) ?_
  refine HD.wl_callF (d := some 28) (v := (.int .i64 1)) (a' := ⟨List.toArray ((.bool false)::(.pointer (some ⟨g, 0, none⟩))::(.pointer (some ⟨h6, 0, none⟩))::(.bool true)::(.pointer (some ⟨g, 0, none⟩))::(.pointer (some ⟨g, 0, none⟩))::(.bool false)::(.bool false)::(.pointer (some ⟨g, 0, none⟩))::(.agg k3.L.toArray)::(.agg e5.L.toArray)::(.bool true)::(.bool false)::(.bool false)::(.tuple #[.agg e5.L.toArray, .bool true])::(.pointer (some ⟨g, 0, none⟩))::(.agg k3.L.toArray)::(.tuple #[.agg e5.L.toArray, .bool true])::(.agg e5.L.toArray)::(.bool true)::(.bool true)::(.bool true)::(.pointer (some ⟨h6, 2, none⟩))::(.int .i64 5)::(.bool true)::(.bool true)::(.bool true)::(.pointer (some ⟨g, 0, none⟩))::(.int .i64 1)::undef::undef::[]), []⟩) (by kernel_rfl) rfl (by kernel_rfl) fun K hK => ?_
  refine op_c1 (fun _ _ => rfl) rfl rfl (ixlen_any (H3.out.1.mod H6.out.1 (fun _ _ c => c)) (fun i hi => by have h1 := H3.out.1.len hi; have h2 := H3.out.2.1.length_eq; simp at h2; omega)) ?_
  rintro e w9 ⟨rfl, hm⟩
  have hl1 : (IL T').length = 1 := H3.out.2.1.length_eq
  rw [hl1]
  have H9 := Lib.hid ((H3.out.2.2.and_then H6.out.1).and_then hm)
  clear hm hl1
  refine ⟨_, rfl, hK _ ?_⟩
  clear hK K
  refine HD.wl_takeF (d := some 29) (v := (.bool true)) (a' := ⟨List.toArray ((.bool false)::(.pointer (some ⟨g, 0, none⟩))::(.pointer (some ⟨h6, 0, none⟩))::(.bool true)::(.pointer (some ⟨g, 0, none⟩))::(.pointer (some ⟨g, 0, none⟩))::(.bool false)::(.bool false)::(.pointer (some ⟨g, 0, none⟩))::(.agg k3.L.toArray)::(.agg e5.L.toArray)::(.bool true)::(.bool false)::(.bool false)::(.tuple #[.agg e5.L.toArray, .bool true])::(.pointer (some ⟨g, 0, none⟩))::(.agg k3.L.toArray)::(.tuple #[.agg e5.L.toArray, .bool true])::(.agg e5.L.toArray)::(.bool true)::(.bool true)::(.bool true)::(.pointer (some ⟨h6, 2, none⟩))::(.int .i64 5)::(.bool true)::(.bool true)::(.bool true)::(.pointer (some ⟨g, 0, none⟩))::(.int .i64 1)::(.bool true)::undef::[]), []⟩) (by kernel_rfl) rfl (by kernel_rfl) (y_eqi (d := true) (decide_eq_true rfl) rfl rfl rfl) ?_
  refine HD.wl_takeF (d := some 30) (v := (.bool true)) (a' := ⟨List.toArray ((.bool false)::(.pointer (some ⟨g, 0, none⟩))::(.pointer (some ⟨h6, 0, none⟩))::(.bool true)::(.pointer (some ⟨g, 0, none⟩))::(.pointer (some ⟨g, 0, none⟩))::(.bool false)::(.bool false)::(.pointer (some ⟨g, 0, none⟩))::(.agg k3.L.toArray)::(.agg e5.L.toArray)::(.bool true)::(.bool false)::(.bool false)::(.tuple #[.agg e5.L.toArray, .bool true])::(.pointer (some ⟨g, 0, none⟩))::(.agg k3.L.toArray)::(.tuple #[.agg e5.L.toArray, .bool true])::(.agg e5.L.toArray)::(.bool true)::(.bool true)::(.bool true)::(.pointer (some ⟨h6, 2, none⟩))::(.int .i64 5)::(.bool true)::(.bool true)::(.bool true)::(.pointer (some ⟨g, 0, none⟩))::(.int .i64 1)::(.bool true)::(.bool true)::[]), []⟩) (by kernel_rfl) rfl (by kernel_rfl) (y_pick (b := true) rfl rfl rfl) ?_
  refine HD.wl_takeF (d := some 0) (v := (.bool true)) (a' := ⟨List.toArray ((.bool true)::(.pointer (some ⟨g, 0, none⟩))::(.pointer (some ⟨h6, 0, none⟩))::(.bool true)::(.pointer (some ⟨g, 0, none⟩))::(.pointer (some ⟨g, 0, none⟩))::(.bool false)::(.bool false)::(.pointer (some ⟨g, 0, none⟩))::(.agg k3.L.toArray)::(.agg e5.L.toArray)::(.bool true)::(.bool false)::(.bool false)::(.tuple #[.agg e5.L.toArray, .bool true])::(.pointer (some ⟨g, 0, none⟩))::(.agg k3.L.toArray)::(.tuple #[.agg e5.L.toArray, .bool true])::(.agg e5.L.toArray)::(.bool true)::(.bool true)::(.bool true)::(.pointer (some ⟨h6, 2, none⟩))::(.int .i64 5)::(.bool true)::(.bool true)::(.bool true)::(.pointer (some ⟨g, 0, none⟩))::(.int .i64 1)::(.bool true)::(.bool true)::[]), []⟩) (by kernel_rfl) rfl (by kernel_rfl) (y_assign rfl rfl) ?_
  refine HD.wl_done ?_
  go_wp2_with fail
  go_ret
  exact ⟨rfl, H9.out⟩
end Go.Proofs.Ytknbehjhaaidoaa.IX

/- IndexExact's memory between two steps: two sides, and the iterators that are kept. -/
namespace Go.Proofs.Ytknbehjhaaidoaa.IX
open Go.RowKit Go.Shelf Mem HD TB
set_option linter.unusedVariables false
set_option linter.unusedSimpArgs false
/-- An iterator that was taken, and what it is to tell. -/
structure Kp where
  hL : Nat
  u : Value
  A : Option Addr
  c : Nat
  l : List (Key × Ent)
def Kp.v (k : Kp) : Value := .slice k.A k.l.length k.c
def Kp.f (k : Kp) : Value := .func (.func 62) #[] #[.pointer (some ⟨k.hL, 0, none⟩)]
def kpL (k : Kp) : List Value := [k.f, k.v]
theorem kpL_len (k : Kp) : (kpL k).length = 2 := rfl
theorem kpL_ones (k : Kp) : ∀ v ∈ kpL k, v.oneCell' = true := fun v hv => by
  simp only [kpL, List.mem_cons, List.not_mem_nil, or_false] at hv
  rcases hv with rfl | rfl <;> rfl
theorem kpL_all (l : List Kp) : ∀ y ∈ l.map kpL, y.length = 2 := fun y hy => by obtain ⟨k, _, rfl⟩ := List.mem_map.1 hy; rfl
structure KpAt (W : World) (k : Kp) : Prop where
  b : Blk W k.hL 77 #[k.u]
  r : KvRow W (k.hL + 1) k.u k.l
  w : KvAt W k.v k.l
  len : k.l.length ≤ 1048576
theorem KpAt.mod {S : Nat → Prop} {W W' : World} {k : Kp} (h : KpAt W k) (m : Mod S W W') (h1 : ¬ S k.hL) (h2 : ∀ b, k.u.ownBlock = some b → ¬ S b) (h3 : ∀ b, k.v.ownBlock = some b → ¬ S b) : KpAt W' k :=
  ⟨h.b.mod m h1, h.r.mod m h2, h.w.mod m h3, h.len⟩
/-- The call's own row of kept iterators. -/
def KpRow (w : World) (base : Nat) (v : Value) (ks : List Kp) : Prop := w.ownsRow base 81 2 v ks.length (ks.map kpL).flatten
theorem KpRow.nil (w : World) (base : Nat) : KpRow w base (.slice none 0 0) [] := ⟨rfl, .inl ⟨rfl, rfl⟩⟩
theorem KpRow.own {w : World} {base b : Nat} {v : Value} {l : List Kp} (h : KpRow w base v l) (hb : v.ownBlock = some b) : base ≤ b ∧ ∃ cur, Blk w b 81 cur := by
  rcases h.2 with ⟨h1, _⟩ | ⟨g, cap, cur, h1, h2, h3, _⟩
  · rw [h1] at hb; cases hb
  · rw [h1] at hb
    injection hb with hb
    subst hb
    exact ⟨h2, cur, h3⟩
theorem KpRow.mod {S : Nat → Prop} {w w' : World} {base : Nat} {v : Value} {l : List Kp} (h : KpRow w base v l) (hm : Mod S w w') (hn : ∀ b, v.ownBlock = some b → ¬ S b) : KpRow w' base v l := by
  refine ⟨h.1, ?_⟩
  rcases h.2 with c | ⟨g, cap, cur, h1, h2, h3, h4⟩
  · exact .inl c
  · exact .inr ⟨g, cap, cur, h1, h2, (show Blk w g 81 cur from h3).mod hm (hn g (by rw [h1]; rfl)), h4⟩
theorem KpRow.read {w : World} {base : Nat} {v : Value} {l : List Kp} (h : KpRow w base v l) : ∃ A c, v = .slice A l.length c ∧ ∀ (i : Nat) (x : Kp), l[i]? = some x → ∃ b o, A = some ⟨b, o, none⟩ ∧ w.rangeAt b (o + i * 2) (kpL x) := by
  rcases h.2 with ⟨h1, h2⟩ | ⟨g, cap, cur, h1, h2, h3, h4, h5, h6, h7⟩
  · have : l = [] := List.eq_nil_of_length_eq_zero h2
    subst this
    exact ⟨none, 0, h1, fun i k hk => by cases hk⟩
  · refine ⟨some ⟨g, 0, none⟩, cap, h1, fun i k hk => ⟨g, 0, rfl, fun j v hv => ?_⟩⟩
    have hj := (List.getElem?_eq_some_iff.1 hv).1
    rw [kpL_len] at hj
    have hf := flat_get (sz := 2) (l.map kpL) i (kpL k) (kpL_all l) (by rw [List.getElem?_map, hk]; rfl) j v hv
    rw [← h7, List.getElem?_take] at hf
    have hb : Blk w g 81 cur := h3
    rw [hb.cell, Nat.zero_add]
    split at hf
    · simpa using hf
    · cases hf
theorem kept_zero : (Try.prog.info? 81).map (fun i => (i.zero, i.size, i.bytes)) = some (some (.agg #[.nilFunc, .slice none 0 0]), 2, 32) := by kernel_rfl
theorem kpslice_run (w : World) (x : Kp) : (Instr.buildSlice 71 1 #[(0, .agg (kpL x).toArray)]).run Try.prog w = .ok (.slice (some ⟨w.heap.size, 0, none⟩) 1 1) (w.alloc (.cells (kpL x).toArray 81)) := by
  obtain ⟨i0, hi, hz0, hz1, hz2⟩ := info_parts kept_zero
  refine run_buildSlice w _ _ 1 _ (kpL x).toArray i0 (.agg #[.nilFunc, .slice none 0 0]) Try.underlying71 hi hz0 (by rw [hz1]; decide) (by rw [hz1]; decide) ?_
  rw [hz1]
  have h := Great.fill_whole (s := 2) (by decide) [.agg (kpL x).toArray] ((Array.range (1 * 2)).map ((Value.agg #[.nilFunc, .slice none 0 0]).cells[· % (Value.agg #[.nilFunc, .slice none 0 0]).cells.size]!)) (fun v hv => by simp at hv; subst hv; simp [Value.cells, kpL_len]) (by simp)
  rw [show ([Value.agg (kpL x).toArray].flatMap fun v => v.cells.toList).toArray = (kpL x).toArray from by simp [Value.cells]] at h
  exact h
/-- One more onto the row. -/
theorem kp_append (w : World) {base b : Nat} {v : Value} {l : List Kp} {x : Kp} (ty : TypeId) (hown : KpRow w base v l) (hb : Blk w b 81 (kpL x).toArray) (hn : l.length ≤ 17179869184) (hbase : base ≤ w.heap.size) :
    ∃ v' w', (Builtin.append_ #[71, 71] ty #[v, .slice (some ⟨b, 0, none⟩) 1 1]).run Try.prog w = .ok v' w' ∧ KpRow w' base v' (l ++ [x]) ∧ w.grownBy w' v.ownBlock ∧ (v'.ownBlock = v.ownBlock ∨ v'.ownBlock = some w.heap.size) := by
  obtain ⟨i0, hi, hz0, hz1, hz2⟩ := info_parts kept_zero
  obtain ⟨v', w', hrun, h2, h3, h4, _⟩ := run_append (P := Try.prog) w base 71 ty 81 i0 (.agg #[.nilFunc, .slice none 0 0]) 2 32 Try.underlying71 hi hz0 hz1 hz2 rfl (by decide) v l.length (l.map kpL).flatten hown (some ⟨b, 0, none⟩) 1 1 (kpL x) (Rds.of_blk hb (by rw [kpL_len]) (fun j u hu => by rw [Nat.zero_add, List.getElem?_toArray]; exact hu)) (kpL_ones x) (by simp only [maxLen]; omega) (by omega) hbase
  refine ⟨v', w', hrun, ?_, h3, h4⟩
  show w'.ownsRow base 81 2 v' (l ++ [x]).length ((l ++ [x]).map kpL).flatten
  rw [List.length_append, List.map_append, List.flatten_append]
  simpa using h2
def pp (g : Nat → Nat) : Array Value := #[.pointer (some ⟨g 0, 0, none⟩), .pointer (some ⟨g 1, 0, none⟩)]
/-- What lies in memory between two steps. O i: the blocks that side i may change; Z: blocks that nobody changes any more. -/
structure EX (w : World) (hp hr B : Nat) (O : Nat → Nat → Prop) (g r : Nat → Nat) (v : Nat → Value) (l : Nat → List (Key × Ent)) (Z : Nat → Prop) (kv : Value) (ks : List Kp) (n m : Nat) (W : World) : Prop where
  bp : Blk W hp 67 (pp g)
  br : Blk W hr 70 (pp r)
  sd : ∀ i, i < 2 → Side W (O i) (g i) (r i) (v i) (l i)
  ap : ∀ i j, i < 2 → j < 2 → i ≠ j → ∀ x, O i x → ¬ O j x
  oh : ∀ i x, i < 2 → O i x → x ≠ hp ∧ x ≠ hr ∧ w.heap.size ≤ x ∧ kv.ownBlock ≠ some x
  zo : ∀ x, Z x → (∀ i, i < 2 → ¬ O i x) ∧ x ≠ hp ∧ x ≠ hr ∧ kv.ownBlock ≠ some x ∧ x < W.heap.size
  zv : ∀ i, i < 2 → ∀ b, (v i).ownBlock = some b → Z b
  kr : KpRow W B kv ks
  kk : ∀ k ∈ ks, KpAt W k ∧ Z k.hL ∧ (∀ b, k.u.ownBlock = some b → Z b) ∧ (∀ b, k.v.ownBlock = some b → Z b)
  kh : ∀ b, kv.ownBlock = some b → b ≠ hp ∧ b ≠ hr
  hw : w.heap.size ≤ hp ∧ w.heap.size ≤ hr ∧ w.heap.size ≤ B ∧ hp ≠ hr
  lo : Mod no w W
  hb : B ≤ W.heap.size
  ln : ∀ i, i < 2 → (l i).length ≤ n
  kn : ks.length ≤ m
section
variable {w W W' : World} {hp hr B : Nat} {O : Nat → Nat → Prop} {g r : Nat → Nat} {v : Nat → Value} {l : Nat → List (Key × Ent)} {Z : Nat → Prop} {kv : Value} {ks : List Kp} {n m : Nat}
/-- A change that touches nothing of all this but what S says. -/
theorem EX.mods {S : Nat → Prop} (h : EX w hp hr B O g r v l Z kv ks n m W) (md : Mod S W W') (s1 : ∀ x, S x → x ≠ hp ∧ x ≠ hr ∧ w.heap.size ≤ x ∧ kv.ownBlock ≠ some x) (s2 : ∀ i x, i < 2 → S x → ¬ O i x) (s3 : ∀ x, S x → ¬ Z x) : EX w hp hr B O g r v l Z kv ks n m W' where
  bp := h.bp.mod md fun c => (s1 _ c).1 rfl
  br := h.br.mod md fun c => (s1 _ c).2.1 rfl
  sd := fun i hi => (h.sd i hi).mod md (fun x hx c => s2 i x hi c hx) fun b hb c => s3 b c (h.zv i hi b hb)
  ap := h.ap
  oh := h.oh
  zo := fun x hx => by obtain ⟨a1, a2, a3, a4, a5⟩ := h.zo x hx; exact ⟨a1, a2, a3, a4, Nat.lt_of_lt_of_le a5 md.size⟩
  zv := h.zv
  kr := h.kr.mod md fun b hb c => (s1 b c).2.2.2 hb
  kk := fun k hk => by
    obtain ⟨a1, a2, a3, a4⟩ := h.kk k hk
    exact ⟨a1.mod md (fun c => s3 _ c a2) (fun b hb c => s3 _ c (a3 b hb)) (fun b hb c => s3 _ c (a4 b hb)), a2, a3, a4⟩
  kh := h.kh
  hw := h.hw
  lo := h.lo.trans md fun k hk c => by have := (s1 k c).2.2.1; omega
  hb := Nat.le_trans h.hb md.size
  ln := h.ln
  kn := h.kn
theorem EX.mod0 (h : EX w hp hr B O g r v l Z kv ks n m W) (md : Mod no W W') : EX w hp hr B O g r v l Z kv ks n m W' :=
  h.mods md (fun _ c => c.elim) (fun _ _ _ c => c.elim) (fun _ c => c.elim)
theorem EX.up {n' m' : Nat} (h : EX w hp hr B O g r v l Z kv ks n m W) (hn : n ≤ n') (hm : m ≤ m') : EX w hp hr B O g r v l Z kv ks n' m' W :=
  { h with ln := fun i hi => Nat.le_trans (h.ln i hi) hn, kn := Nat.le_trans h.kn hm }
/-- More blocks that nobody changes any more. -/
theorem EX.zadd {Y : Nat → Prop} (h : EX w hp hr B O g r v l Z kv ks n m W) (hy : ∀ x, Y x → (∀ i, i < 2 → ¬ O i x) ∧ x ≠ hp ∧ x ≠ hr ∧ kv.ownBlock ≠ some x ∧ x < W.heap.size) : EX w hp hr B O g r v l (fun x => Z x ∨ Y x) kv ks n m W :=
  { h with zo := fun x hx => hx.elim (h.zo x) (hy x), zv := fun i hi b hb => .inl (h.zv i hi b hb), kk := fun k hk => by obtain ⟨a1, a2, a3, a4⟩ := h.kk k hk; exact ⟨a1, .inl a2, fun b hb => .inl (a3 b hb), fun b hb => .inl (a4 b hb)⟩ }
/-- A new block is none of these. -/
theorem EX.fresh {x : Nat} (h : EX w hp hr B O g r v l Z kv ks n m W) (md : Mod no W W') (hx : W.heap.size ≤ x) (hx' : x < W'.heap.size) : (∀ i, i < 2 → ¬ O i x) ∧ x ≠ hp ∧ x ≠ hr ∧ kv.ownBlock ≠ some x ∧ x < W'.heap.size := by
  refine ⟨fun i hi c => ?_, fun c => ?_, fun c => ?_, fun c => ?_, hx'⟩
  · have := (h.sd i hi).lt x c; omega
  · have := h.bp.lt; omega
  · have := h.br.lt; omega
  · obtain ⟨_, cur, hc⟩ := h.kr.own c; have := hc.lt; omega
theorem ite_i {α : Type} (i : Nat) (x : α) (f : Nat → α) : (if i = i then x else f i) = x := if_pos rfl
/-- One side went on. -/
theorem EX.went {i : Nat} (h : EX w hp hr B O g r v l Z kv ks n m W) (hi : i < 2) (hwt : Went W (O i) (g i) (r i) (v i) (l i) W') : ∃ O' v' l' Z', EX w hp hr B O' g r v' l' Z' kv ks (n + 1) m W' := by
  obtain ⟨O1, v1, l1, hs, hO, hv, md, hl⟩ := hwt
  have hlow : ∀ x, O i x → w.heap.size ≤ x := fun x c => (h.oh i x hi c).2.2.1
  have hsz := md.size
  have hnew : ∀ x, O1 x → x ≠ hp ∧ x ≠ hr ∧ w.heap.size ≤ x ∧ kv.ownBlock ≠ some x := fun x c => by
    rcases hO x c with c | c
    · exact h.oh i x hi c
    · refine ⟨fun e => ?_, fun e => ?_, Nat.le_trans h.lo.size c, fun e => ?_⟩
      · have := h.bp.lt; omega
      · have := h.br.lt; omega
      · obtain ⟨_, cur, hc⟩ := h.kr.own e; have := hc.lt; omega
  have hz1 : ∀ x, Z x → ¬ O1 x := fun x hx c => by
    obtain ⟨a1, a2, a3, a4, a5⟩ := h.zo x hx
    rcases hO x c with c | c
    · exact a1 i hi c
    · omega
  have hd : ∀ j, j < 2 → j ≠ i → ∀ x, O1 x → ¬ O j x := fun j hj hne x c c' => by
    rcases hO x c with c | c
    · exact h.ap i j hi hj (Ne.symm hne) x c c'
    · have := (h.sd j hj).lt x c'; omega
  refine ⟨fun j => if j = i then O1 else O j, fun j => if j = i then v1 else v j, fun j => if j = i then l1 else l j, fun x => Z x ∨ v1.ownBlock = some x, ?_⟩
  refine ⟨h.bp.mod md fun c => (h.oh i _ hi c).1 rfl, h.br.mod md fun c => (h.oh i _ hi c).2.1 rfl, fun j hj => ?_, fun j k hj hk hne x => ?_, fun j x hj c => ?_, fun x hx => ?_, fun j hj b hb => ?_, h.kr.mod md fun b hb c => (h.oh i b hi c).2.2.2 hb, fun k hk => ?_, h.kh, h.hw, h.lo.trans md fun k hk c => by have := hlow k c; omega, Nat.le_trans h.hb md.size, fun j hj => ?_, h.kn⟩
  · by_cases e : j = i
    · subst e; simp only [if_true]; exact hs
    · simp only [if_neg e]
      exact (h.sd j hj).mod md (fun x c c' => h.ap i j hi hj (Ne.symm e) x c' c) fun b hb c => (h.zo b (h.zv j hj b hb)).1 i hi c
  · by_cases e : j = i
    · by_cases e' : k = i
      · exact absurd (e.trans e'.symm) hne
      · simp only [if_pos e, if_neg e']; exact hd k hk e' x
    · by_cases e' : k = i
      · simp only [if_neg e, if_pos e']; exact fun c c' => hd j hj e x c' c
      · simp only [if_neg e, if_neg e']; exact h.ap j k hj hk hne x
  · by_cases e : j = i
    · simp only [if_pos e] at c; exact hnew x c
    · simp only [if_neg e] at c; exact h.oh j x hj c
  · rcases hx with hx | hx
    · obtain ⟨a1, a2, a3, a4, a5⟩ := h.zo x hx
      refine ⟨fun j hj c => ?_, a2, a3, a4, by omega⟩
      by_cases e : j = i
      · simp only [if_pos e] at c; exact hz1 x hx c
      · simp only [if_neg e] at c; exact a1 j hj c
    · have hlt := hs.vl x hx
      have hno := hs.vo x hx
      rcases hv x hx with e | e
      · rw [e] at hx
        have hZ := h.zv i hi x hx
        obtain ⟨a1, a2, a3, a4, a5⟩ := h.zo x hZ
        refine ⟨fun j hj c => ?_, a2, a3, a4, by omega⟩
        by_cases e : j = i
        · simp only [if_pos e] at c; exact hno c
        · simp only [if_neg e] at c; exact a1 j hj c
      · refine ⟨fun j hj c => ?_, fun c => ?_, fun c => ?_, fun c => ?_, hlt⟩
        · by_cases e' : j = i
          · simp only [if_pos e'] at c; exact hno c
          · simp only [if_neg e'] at c; have := (h.sd j hj).lt x c; omega
        · have := h.bp.lt; omega
        · have := h.br.lt; omega
        · obtain ⟨_, cur, hc⟩ := h.kr.own c; have := hc.lt; omega
  · by_cases e : j = i
    · simp only [if_pos e] at hb; exact .inr hb
    · simp only [if_neg e] at hb; exact .inl (h.zv j hj b hb)
  · obtain ⟨a1, a2, a3, a4⟩ := h.kk k hk
    have hz : ∀ x, Z x → ¬ O i x := fun x hx => (h.zo x hx).1 i hi
    exact ⟨a1.mod md (hz _ a2) (fun b hb => hz b (a3 b hb)) (fun b hb => hz b (a4 b hb)), .inl a2, fun b hb => .inl (a3 b hb), fun b hb => .inl (a4 b hb)⟩
  · have := h.ln j hj
    by_cases e : j = i
    · subst e; simp only [if_true]; omega
    · simp only [if_neg e]; omega
theorem pp_set (g : Nat → Nat) {i : Nat} (hi : i < 2) (x : Nat) : (pp g).setIfInBounds i (.pointer (some ⟨x, 0, none⟩)) = pp fun j => if j = i then x else g j := by
  rcases i with _ | _ | i
  · rfl
  · rfl
  · omega
/-- A new index in one side's place. -/
theorem EX.news {i g1 r1 : Nat} {O1 : Nat → Prop} {W1 : World} (h : EX w hp hr B O g r v l Z kv ks n m W) (hi : i < 2) (md : Mod no W W1) (hs : Side W1 O1 g1 r1 (.slice none 0 0) []) (hO : ∀ x, O1 x → W.heap.size ≤ x) :
    EX w hp hr B (fun j => if j = i then O1 else O j) (fun j => if j = i then g1 else g j) (fun j => if j = i then r1 else r j) (fun j => if j = i then .slice none 0 0 else v j) (fun j => if j = i then [] else l j) Z kv ks n m ((W1.setCell ⟨hp, i, none⟩ (.pointer (some ⟨g1, 0, none⟩))).setCell ⟨hr, i, none⟩ (.pointer (some ⟨r1, 0, none⟩))) := by
  have h1 := h.mod0 md
  have hpl := h.bp.lt
  have hrl := h.br.lt
  obtain ⟨w1, w2, w3, w4⟩ := h.hw
  have hm : Mod (fun x => x = hp ∨ x = hr) W1 ((W1.setCell ⟨hp, i, none⟩ (.pointer (some ⟨g1, 0, none⟩))).setCell ⟨hr, i, none⟩ (.pointer (some ⟨r1, 0, none⟩))) := ((Mod.refl _ W1).set (p := ⟨hp, i, none⟩) (fun _ => .inl rfl) _).set (p := ⟨hr, i, none⟩) (fun _ => .inr rfl) _
  have hn1 : ∀ x, O1 x → x ≠ hp ∧ x ≠ hr ∧ w.heap.size ≤ x ∧ kv.ownBlock ≠ some x := fun x c => by
    have h5 := h.lo.size
    have h6 := hO x c
    refine ⟨fun e => by omega, fun e => by omega, by omega, fun e => ?_⟩
    obtain ⟨_, cur, hc⟩ := h.kr.own e; have := hc.lt; omega
  have hsS : ∀ {O' : Nat → Prop} {g' r' : Nat} {v' : Value} {l' : List (Key × Ent)}, Side W1 O' g' r' v' l' → (∀ x, O' x → x ≠ hp ∧ x ≠ hr) → (∀ b, v'.ownBlock = some b → b ≠ hp ∧ b ≠ hr) → Side _ O' g' r' v' l' := fun s a b => s.mod hm (fun x c e => e.elim (a x c).1 (a x c).2) fun x c e => e.elim (b x c).1 (b x c).2
  have hd : ∀ j, j < 2 → ∀ x, O1 x → ¬ O j x := fun j hj x c c' => by have := (h.sd j hj).lt x c'; have := hO x c; omega
  have hsz := hm.size
  refine ⟨?_, ?_, fun j hj => ?_, fun j k hj hk hne x => ?_, fun j x hj c => ?_, fun x hx => ?_, fun j hj b hb => ?_, h1.kr.mod hm fun b hb c => c.elim (h.kh b hb).1 (h.kh b hb).2, fun k hk => ?_, h.kh, h.hw, h1.lo.trans hm fun k hk c => by rcases c with c | c <;> omega, Nat.le_trans h1.hb hm.size, fun j hj => ?_, h.kn⟩
  · rw [← pp_set g hi]; exact (h1.bp.put i _).far (p := ⟨hr, i, none⟩) w4 _
  · rw [← pp_set r hi]; exact (h1.br.far (p := ⟨hp, i, none⟩) (Ne.symm w4) _).put i _
  · by_cases e : j = i
    · simp only [if_pos e]; exact hsS hs (fun x c => ⟨(hn1 x c).1, (hn1 x c).2.1⟩) (fun b hb => by cases hb)
    · simp only [if_neg e]; exact hsS (h1.sd j hj) (fun x c => ⟨(h.oh j x hj c).1, (h.oh j x hj c).2.1⟩) (fun b hb => ⟨(h.zo b (h.zv j hj b hb)).2.1, (h.zo b (h.zv j hj b hb)).2.2.1⟩)
  · by_cases e : j = i
    · by_cases e' : k = i
      · exact absurd (e.trans e'.symm) hne
      · simp only [if_pos e, if_neg e']; exact hd k hk x
    · by_cases e' : k = i
      · simp only [if_neg e, if_pos e']; exact fun c c' => hd j hj x c' c
      · simp only [if_neg e, if_neg e']; exact h.ap j k hj hk hne x
  · by_cases e : j = i
    · simp only [if_pos e] at c; exact hn1 x c
    · simp only [if_neg e] at c; exact h.oh j x hj c
  · obtain ⟨a1, a2, a3, a4, a5⟩ := h1.zo x hx
    refine ⟨fun j hj c => ?_, a2, a3, a4, by omega⟩
    by_cases e : j = i
    · simp only [if_pos e] at c; have := hO x c; have := (h.zo x hx).2.2.2.2; omega
    · simp only [if_neg e] at c; exact a1 j hj c
  · by_cases e : j = i
    · simp only [if_pos e] at hb; cases hb
    · simp only [if_neg e] at hb; exact h.zv j hj b hb
  · obtain ⟨a1, a2, a3, a4⟩ := h1.kk k hk
    have hz : ∀ x, Z x → ¬ (x = hp ∨ x = hr) := fun x hx c => c.elim (h.zo x hx).2.1 (h.zo x hx).2.2.1
    exact ⟨a1.mod hm (hz _ a2) (fun b hb => hz b (a3 b hb)) (fun b hb => hz b (a4 b hb)), a2, a3, a4⟩
  · by_cases e : j = i
    · simp only [if_pos e]; exact Nat.zero_le _
    · simp only [if_neg e]; exact h.ln j hj
/-- An iterator more is kept. -/
theorem EX.keep {k : Kp} {kv' : Value} (h : EX w hp hr B O g r v l Z kv ks n m W) (hk : KpAt W k) (z1 : Z k.hL) (z2 : ∀ b, k.u.ownBlock = some b → Z b) (z3 : ∀ b, k.v.ownBlock = some b → Z b)
    (hrow : KpRow W' B kv' (ks ++ [k])) (hg : W.grownBy W' kv.ownBlock) (ho : kv'.ownBlock = kv.ownBlock ∨ kv'.ownBlock = some W.heap.size) : EX w hp hr B O g r v l Z kv' (ks ++ [k]) n (m + 1) W' := by
  have md : Mod (fun x => kv.ownBlock = some x) W W' := Mod.of_grown hg fun x _ e => e
  have hsz := md.size
  have hnz : ∀ x, Z x → ¬ kv.ownBlock = some x := fun x hx => (h.zo x hx).2.2.2.1
  have hkv' : ∀ x, x < W.heap.size → kv.ownBlock ≠ some x → kv'.ownBlock ≠ some x := fun x hx c e => by
    rcases ho with o | o
    · rw [o] at e; exact c e
    · rw [o] at e; injection e with e; omega
  refine ⟨h.bp.mod md fun c => (h.kh _ c).1 rfl, h.br.mod md fun c => (h.kh _ c).2 rfl, fun i hi => (h.sd i hi).mod md (fun x c c' => (h.oh i x hi c).2.2.2 c') fun b hb => hnz b (h.zv i hi b hb), h.ap, fun i x hi c => ?_, fun x hx => ?_, h.zv, hrow, fun q hq => ?_, fun b hb => ?_, h.hw, h.lo.trans md fun x hx c => ?_, Nat.le_trans h.hb md.size, h.ln, ?_⟩
  · obtain ⟨a1, a2, a3, a4⟩ := h.oh i x hi c
    exact ⟨a1, a2, a3, hkv' x ((h.sd i hi).lt x c) a4⟩
  · obtain ⟨a1, a2, a3, a4, a5⟩ := h.zo x hx
    exact ⟨a1, a2, a3, hkv' x a5 a4, by omega⟩
  · rcases List.mem_append.1 hq with hq | hq
    · obtain ⟨a1, a2, a3, a4⟩ := h.kk q hq
      exact ⟨a1.mod md (hnz _ a2) (fun b hb => hnz b (a3 b hb)) (fun b hb => hnz b (a4 b hb)), a2, a3, a4⟩
    · rw [List.mem_singleton] at hq
      subst hq
      exact ⟨hk.mod md (hnz _ z1) (fun b hb => hnz b (z2 b hb)) (fun b hb => hnz b (z3 b hb)), z1, z2, z3⟩
  · rcases ho with o | o
    · rw [o] at hb; exact h.kh b hb
    · rw [o] at hb; injection hb with hb
      have := h.bp.lt; have := h.br.lt
      exact ⟨by omega, by omega⟩
  · obtain ⟨h5, _⟩ := h.kr.own c; have := h.hw.2.2.1; omega
  · rw [List.length_append]; have := h.kn; simp; omega
end
end Go.Proofs.Ytknbehjhaaidoaa.IX

/- IndexExact's own operations. -/
namespace Go.Proofs.Ytknbehjhaaidoaa.IX
open Go.RowKit Go.Shelf Mem HD TB
set_option linter.unusedVariables false
set_option linter.unusedSimpArgs false
/-- The script in memory. -/
def SAt (w : World) (v : Value) (ss : List Stp) : Prop := ∃ A c, v = .slice A ss.length c ∧ ∀ (i : Nat) (s : Stp), ss[i]? = some s → ∃ b o, A = some ⟨b, o, none⟩ ∧ w.rangeAt b (o + i * 45) s.L
theorem i64_and1 (n : Int) : bits .and .i64 n 1 = n % 2 := by
  have h1 : (BitVec.ofInt 64 1).toNat = 2 ^ 1 - 1 := by decide
  have key : (BitVec.ofInt 64 n &&& BitVec.ofInt 64 1).toNat = (n % ((2 ^ 64 : Nat) : Int)).toNat % 2 ^ 1 := by
    rw [BitVec.toNat_and, BitVec.toNat_ofInt, h1, Nat.and_two_pow_sub_one_eq_mod]
  show IntKind.i64.wrap ((BitVec.ofInt 64 n &&& BitVec.ofInt 64 1).toNat : Nat) = n % 2
  rw [key, IntKind.wrap_i64]
  omega
/-- The side that a step takes. -/
def Stp.sel (s : Stp) : Nat := (s.on % 2).toNat
theorem Stp.sel_lt (s : Stp) : s.sel < 2 := by unfold Stp.sel; omega
theorem Stp.sel_eq (s : Stp) : s.on % 2 = (s.sel : Int) := by unfold Stp.sel; omega
def stp0 : Stp := ⟨0, 0, false, k0, e0, 0, 0, 0, 0, 0, false⟩
theorem stp_ones (s : Stp) : ∀ v ∈ s.L, v.oneCell' = true := fun v hv => by
  unfold Stp.L at hv
  rcases List.mem_append.1 hv with hv | hv
  · simp only [List.mem_cons, List.not_mem_nil, or_false] at hv
    rcases hv with rfl | rfl | rfl <;> rfl
  rcases List.mem_append.1 hv with hv | hv
  · exact key_ones _ v hv
  rcases List.mem_append.1 hv with hv | hv
  · exact ent_ones _ v hv
  · simp only [List.mem_cons, List.not_mem_nil, or_false] at hv
    rcases hv with rfl | rfl | rfl | rfl | rfl | rfl <;> rfl
theorem step_sizeG (s : Stp) : (Try.prog.info? 73).map (·.size) = some s.L.length := by
  rw [s.len]; kernel_rfl
theorem kept_sizeG (k : Kp) : (Try.prog.info? 81).map (·.size) = some (kpL k).length := by
  rw [kpL_len]; kernel_rfl
section
variable {a : Act} {o : Oper} {w w' : World} {K : Act → World → Prop} {Q : Exit → Act → World → Prop} {d : Option Tmp} {ops : Array Oper} {rest : List Oper}
theorem y_and1 {x : Operand} {s : Stp} (ho : o.op = .binOp .and 3 x (.const (.int .i64 1)) 3) (hx : a.eval x = .int .i64 s.on) : (execOp a.eval o).run Try.prog w = .ok (.value (.int .i64 (s.sel : Int))) w := by
  have h1 := i64_and1 s.on
  have h2 := s.sel_eq
  generalize hev : a.eval = ev at hx
  have hz : ev (.const (.int .i64 1)) = .int .i64 1 := by rw [← hev]; rfl
  unfold execOp
  simp only [ho, hx, hz]
  go_simp
theorem y_ixpp {x y : Operand} {b p : Nat} (ho : o.op = .indexAddr 67 x y) (hx : a.eval x = .pointer (some ⟨b, 0, none⟩)) (hy : a.eval y = .int .i64 (p : Int)) (hp : p < 2) : (execOp a.eval o).run Try.prog w = .ok (.value (.pointer (some ⟨b, p, none⟩))) w := by
  have hp0 : (0 : Int) ≤ (p : Int) := by omega
  have hpi : (p : Int) < (2 : Int) := by omega
  generalize a.eval = ev at hx hy
  unfold execOp
  simp only [ho, hx, hy]
  go_simp
theorem y_ixpr {x y : Operand} {b p : Nat} (ho : o.op = .indexAddr 70 x y) (hx : a.eval x = .pointer (some ⟨b, 0, none⟩)) (hy : a.eval y = .int .i64 (p : Int)) (hp : p < 2) : (execOp a.eval o).run Try.prog w = .ok (.value (.pointer (some ⟨b, p, none⟩))) w := by
  have hp0 : (0 : Int) ≤ (p : Int) := by omega
  have hpi : (p : Int) < (2 : Int) := by omega
  generalize a.eval = ev at hx hy
  unfold execOp
  simp only [ho, hx, hy]
  go_simp
theorem y_ldp {x : Operand} {p : Addr} {v : Value} (ho : o.op = .load 49 x) (hx : a.eval x = .pointer (some p)) (hc : w.cell? p = some v) (hv : v.oneCell' = true) : (execOp a.eval o).run Try.prog w = .ok (.value v) w := by
  generalize a.eval = ev at hx
  unfold execOp
  simp only [ho, hx]
  go_simp
theorem y_ldr {x : Operand} {p : Addr} {v : Value} (ho : o.op = .load 68 x) (hx : a.eval x = .pointer (some p)) (hc : w.cell? p = some v) (hv : v.oneCell' = true) : (execOp a.eval o).run Try.prog w = .ok (.value v) w := by
  generalize a.eval = ev at hx
  unfold execOp
  simp only [ho, hx]
  go_simp
theorem pp_built (p q : Option Addr) : Try.prog.built 67 [(0, .pointer p), (1, .pointer q)] = some #[.pointer p, .pointer q] := by kernel_rfl
theorem pr_built (p q : Option Addr) : Try.prog.built 70 [(0, .pointer p), (1, .pointer q)] = some #[.pointer p, .pointer q] := by kernel_rfl
theorem y_bpp {x y : Operand} {g : Nat → Nat} (ho : o.op = .build 67 #[(0, x), (1, y)]) (hx : a.eval x = .pointer (some ⟨g 0, 0, none⟩)) (hy : a.eval y = .pointer (some ⟨g 1, 0, none⟩)) : (execOp a.eval o).run Try.prog w = .ok (.value (.agg (pp g))) w := by
  have h := run_build (P := Try.prog) w 67 #[(0, .pointer (some ⟨g 0, 0, none⟩)), (1, .pointer (some ⟨g 1, 0, none⟩))] _ (pp_built _ _)
  unfold execOp
  simp only [ho, hx, hy, List.map_toArray, List.map_cons, List.map_nil, Sem.run_bind, h, Result.andThen_ok, Sem.run_pure]
  rfl
theorem y_bpr {x y : Operand} {g : Nat → Nat} (ho : o.op = .build 70 #[(0, x), (1, y)]) (hx : a.eval x = .pointer (some ⟨g 0, 0, none⟩)) (hy : a.eval y = .pointer (some ⟨g 1, 0, none⟩)) : (execOp a.eval o).run Try.prog w = .ok (.value (.agg (pp g))) w := by
  have h := run_build (P := Try.prog) w 70 #[(0, .pointer (some ⟨g 0, 0, none⟩)), (1, .pointer (some ⟨g 1, 0, none⟩))] _ (pr_built _ _)
  unfold execOp
  simp only [ho, hx, hy, List.map_toArray, List.map_cons, List.map_nil, Sem.run_bind, h, Result.andThen_ok, Sem.run_pure]
  rfl
theorem y_allocpp (ho : o.op = .alloc 67) : (execOp a.eval o).run Try.prog w = .ok (.value (.pointer (some ⟨w.heap.size, 0, none⟩))) (w.alloc (.cells #[.pointer none, .pointer none] 67)) := by
  unfold execOp
  simp only [ho]
  go_simp
theorem y_allocpr (ho : o.op = .alloc 70) : (execOp a.eval o).run Try.prog w = .ok (.value (.pointer (some ⟨w.heap.size, 0, none⟩))) (w.alloc (.cells #[.pointer none, .pointer none] 70)) := by
  unfold execOp
  simp only [ho]
  go_simp
theorem y_allocST (ho : o.op = .alloc 73) : (execOp a.eval o).run Try.prog w = .ok (.value (.pointer (some ⟨w.heap.size, 0, none⟩))) (w.alloc (.cells stp0.L.toArray 73)) := by
  unfold execOp
  simp only [ho]
  go_simp
  rfl
theorem y_allocKP (ho : o.op = .alloc 81) : (execOp a.eval o).run Try.prog w = .ok (.value (.pointer (some ⟨w.heap.size, 0, none⟩))) (w.alloc (.cells #[.nilFunc, .slice none 0 0] 81)) := by
  unfold execOp
  simp only [ho]
  go_simp
theorem y_step {x : Operand} {b off : Nat} {s : Stp} (ho : o.op = .load 73 x) (hx : a.eval x = .pointer (some ⟨b, off, none⟩)) (hc : w.rangeAt b off s.L) : (execOp a.eval o).run Try.prog w = .ok (.value (.agg s.L.toArray)) w :=
  y_mid ho hx hc Try.underlying73 rfl (step_sizeG s)
theorem y_ldkp {x : Operand} {b off : Nat} {k : Kp} (ho : o.op = .load 81 x) (hx : a.eval x = .pointer (some ⟨b, off, none⟩)) (hc : w.rangeAt b off (kpL k)) : (execOp a.eval o).run Try.prog w = .ok (.value (.agg (kpL k).toArray)) w :=
  y_mid ho hx hc Try.underlying81 rfl (kept_sizeG k)
theorem y_ixst {x y : Operand} {b off n c p : Nat} (ho : o.op = .indexAddr 66 x y) (hx : a.eval x = .slice (some ⟨b, off, none⟩) n c) (hy : a.eval y = .int .i64 (p : Int)) (hp : p < n) : (execOp a.eval o).run Try.prog w = .ok (.value (.pointer (some ⟨b, off + p * 45, none⟩))) w := by
  have hp0 : (0 : Int) ≤ (p : Int) := by omega
  have hpi : (p : Int) < (n : Int) := by omega
  have ha : (⟨b, off, none⟩ : Addr).add (p * 45) = ⟨b, off + p * 45, none⟩ := add_plain _ _ _
  generalize a.eval = ev at hx hy
  unfold execOp
  simp only [ho, hx, hy]
  go_simp
theorem y_ixkp {x y : Operand} {b off n c p : Nat} (ho : o.op = .indexAddr 71 x y) (hx : a.eval x = .slice (some ⟨b, off, none⟩) n c) (hy : a.eval y = .int .i64 (p : Int)) (hp : p < n) : (execOp a.eval o).run Try.prog w = .ok (.value (.pointer (some ⟨b, off + p * 2, none⟩))) w := by
  have hp0 : (0 : Int) ≤ (p : Int) := by omega
  have hpi : (p : Int) < (n : Int) := by omega
  have ha : (⟨b, off, none⟩ : Addr).add (p * 2) = ⟨b, off + p * 2, none⟩ := add_plain _ _ _
  generalize a.eval = ev at hx hy
  unfold execOp
  simp only [ho, hx, hy]
  go_simp
theorem y_lenst {x : Operand} {A : Option Addr} {n c : Nat} (ho : o.op = .call { callee := .builtin .len, args := #[x], argTypes := #[66] }) (hx : a.eval x = .slice A n c) : (execOp a.eval o).run Try.prog w = .ok (.value (.int .i64 (n : Int))) w := by
  generalize a.eval = ev at hx
  unfold execOp
  simp only [ho, hx]
  go_simp
theorem y_lenkp {x : Operand} {A : Option Addr} {n c : Nat} (ho : o.op = .call { callee := .builtin .len, args := #[x], argTypes := #[71] }) (hx : a.eval x = .slice A n c) : (execOp a.eval o).run Try.prog w = .ok (.value (.int .i64 (n : Int))) w := by
  generalize a.eval = ev at hx
  unfold execOp
  simp only [ho, hx]
  go_simp
theorem y_kpslice {q : Operand} {x : Kp} (ho : o.op = .buildSlice 71 1 #[(0, q)]) (hq : a.eval q = .agg (kpL x).toArray) : (execOp a.eval o).run Try.prog w = .ok (.value (.slice (some ⟨w.heap.size, 0, none⟩) 1 1)) (w.alloc (.cells (kpL x).toArray 81)) := by
  have h := kpslice_run w x
  unfold execOp
  simp only [ho, hq, List.map_toArray, List.map_cons, List.map_nil, Sem.run_bind, h, Result.andThen_ok, Sem.run_pure]
theorem op_storep {x y : Operand} {b i : Nat} {q : Option Addr} {u : Value} (ho : o.op = .store 49 x y) (hx : a.eval x = .pointer (some ⟨b, i, none⟩)) (hy : a.eval y = .pointer q)
    (hc : w.cell? ⟨b, i, none⟩ = some u) (hf : w.frozen? ⟨b, i, none⟩ = false) (hK : K (a.put o.dst undef) (w.setCell ⟨b, i, none⟩ (.pointer q))) : Oper.wp Try.prog o a w K Q := by
  unfold Oper.wp execOp
  simp only [ho, hx, hy]
  go_simp
  exact hK
theorem op_storer {x y : Operand} {b i : Nat} {q : Option Addr} {u : Value} (ho : o.op = .store 68 x y) (hx : a.eval x = .pointer (some ⟨b, i, none⟩)) (hy : a.eval y = .pointer q)
    (hc : w.cell? ⟨b, i, none⟩ = some u) (hf : w.frozen? ⟨b, i, none⟩ = false) (hK : K (a.put o.dst undef) (w.setCell ⟨b, i, none⟩ (.pointer q))) : Oper.wp Try.prog o a w K Q := by
  unfold Oper.wp execOp
  simp only [ho, hx, hy]
  go_simp
  exact hK
end
end Go.Proofs.Ytknbehjhaaidoaa.IX

