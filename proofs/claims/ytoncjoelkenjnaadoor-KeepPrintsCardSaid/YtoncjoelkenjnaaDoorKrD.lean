/- The document's Print (printed by keepref.py). -/
import Derived.Test.YtoncjoelkenjnaaDoorKrC
namespace Go.Proofs.YtoncjoelkenjnaaDoor.KR
open Go.RowKit Mem HD
set_option linter.unusedVariables false
set_option linter.unusedSimpArgs false

section
variable {a : Act} {o : Oper} {w w' : World}
theorem y_add {x y : Operand} {l m : List UInt8} (ho : o.op = .binOp .add 9 x y 9) (hx : a.eval x = .string (sv l)) (hy : a.eval y = .string (sv m)) (hl : l.length + m.length ≤ 9223372036854775807) : (execOp a.eval o).run Tryd.prog w = .ok (.value (.string (sv (l ++ m)))) w := by
  have h1 := sv_size l
  have h2 := sv_size m
  have h3 : ¬ 9223372036854775807 < (sv l).size + (sv m).size := by rw [h1, h2]; omega
  rw [← sv_append]
  generalize a.eval = ev at hx hy
  clear h1 h2
  unfold execOp
  simp only [ho, hx, hy]
  go_simp
theorem y_idxS {x y : Operand} {b n c k : Nat} (ho : o.op = .indexAddr 32 x y) (hx : a.eval x = .slice (some ⟨b, 0, none⟩) n c) (hy : a.eval y = .int .i64 (k : Int)) (hk : k < n) : (execOp a.eval o).run Tryd.prog w = .ok (.value (.pointer (some ⟨b, k, none⟩))) w := by
  have hkn : (k : Int) < (n : Int) := by omega
  generalize a.eval = ev at hx hy
  unfold execOp
  simp only [ho, hx, hy]
  go_simp
theorem y_idxN {x y : Operand} {b n c k : Nat} (ho : o.op = .indexAddr 38 x y) (hx : a.eval x = .slice (some ⟨b, 0, none⟩) n c) (hy : a.eval y = .int .i64 (k : Int)) (hk : k < n) : (execOp a.eval o).run Tryd.prog w = .ok (.value (.pointer (some ⟨b, k, none⟩))) w := by
  have hkn : (k : Int) < (n : Int) := by omega
  generalize a.eval = ev at hx hy
  unfold execOp
  simp only [ho, hx, hy]
  go_simp
theorem op_digits {K : Act → World → Prop} {Q : Exit → Act → World → Prop} {x : Operand} {t : TypeId} {u : Value} {R : Ending → World → Prop} (ho : o.op = .call { callee := .value (.func 14), args := #[x], argTypes := #[t] }) (hx : a.eval x = u)
    (hC : Calls Tryd.prog 14 #[u] w R) (hR : ∀ e w', R e w' → ∃ u, e = .returned u ∧ K (a.put o.dst u) w') : Oper.wp Tryd.prog o a w K Q := by
  have h : (execOp a.eval o).run Tryd.prog w = .ok (.enter 14 #[u]) w := by
    have hf : a.eval (.func 14) = .func (.func 14) #[] #[] := rfl
    generalize a.eval = ev at hx hf
    unfold execOp
    simp only [ho]
    go_simp
  unfold Oper.wp
  rw [h, Oper.upon_enter]
  refine hC.mono fun e w' hr => ?_
  obtain ⟨u, rfl, hk⟩ := hR e w' hr
  exact hk
end
/-- The document's row of words, its row of numbers. -/
def Ws : List Value := [.string (sv wLast), .string (sv wHours), .string (sv wDays), .string (sv wWeeks), .string (sv wMonths), .string (sv wYears), .string (sv wWithin)]
def Ns (r : Rule) : List Value := [.int .i64 r.l, .int .i64 r.h, .int .i64 r.d, .int .i64 r.w, .int .i64 r.m, .int .i64 r.y, .int .i64 r.x]
theorem wn_at {r : Rule} {k : Nat} {p : Bytes × Int} (hp : r.all[k]? = some p) : Ws[k]? = some (.string (sv p.1)) ∧ (Ns r)[k]? = some (.int .i64 p.2) ∧ p.1.length ≤ 6 := by
  have hk : k < 7 := (List.getElem?_eq_some_iff.1 hp).1
  obtain rfl | rfl | rfl | rfl | rfl | rfl | rfl : k = 0 ∨ k = 1 ∨ k = 2 ∨ k = 3 ∨ k = 4 ∨ k = 5 ∨ k = 6 := by omega
  all_goals (simp [Rule.all] at hp; subst hp; exact ⟨rfl, rfl, by simp [wLast, wHours, wDays, wWeeks, wMonths, wYears, wWithin]⟩)
def QI (w : World) (r : Rule) (v7 v8 : Value) (wr : World) : Prop := ∃ (k : Nat) (X : Bytes), k ≤ 7 ∧ v7 = .string (sv X) ∧ v8 = .int .i64 (k : Int) ∧ refP (r.all.drop k) X = refP r.all [] ∧ X.length ≤ 28 * k ∧ Mod no w wr
set_option maxRecDepth 100000 in
set_option maxHeartbeats 4000000 in
theorem print_r {w : World} {r : Rule} (hi : r.In) : Calls Tryd.prog 6 #[Rv r.l r.h r.d r.w r.m r.y r.x] w fun e w' => Mod no w w' ∧ ((r.right ∧ e = .returned (.tuple #[.string (sv r.text), .int .i64 0])) ∨ (¬ r.right ∧ e = .returned (.tuple #[.string (sv []), .int .i64 280]))) := by
  by_cases hr : r.right
  case neg =>
    have hd : decide (r.right) = false := decide_eq_false hr
    have HR := Lib.hid hr
    have HC := Lib.hid (fun (W : World) => (right_r (w := W) r.l r.h r.d r.w r.m r.y r.x).mono (fun e w' (h : _ ∧ _) => show e = .returned (.bool false) ∧ Mod no W w' from ⟨by rw [h.1]; exact congrArg _ (congrArg _ hd), h.2⟩))
    clear hr hd hi
    go_enter Tryd.func6, Tryd.ntmps6
    go_wp2_with (go_at_call 13; refine (HC.out _).mono ?_; rintro e w2 ⟨rfl, m2⟩)
    go_ret2
    exact ⟨((Mod.refl no w).alloc _).and_then m2, .inr ⟨HR.out, rfl⟩⟩
  have hd : decide (r.right) = true := decide_eq_true hr
  have HR := Lib.hid hr
  have HN := Lib.hid (all_num hi hr)
  have HC := Lib.hid (fun (W : World) => (right_r (w := W) r.l r.h r.d r.w r.m r.y r.x).mono (fun e w' (h : _ ∧ _) => show e = .returned (.bool true) ∧ Mod no W w' from ⟨by rw [h.1]; exact congrArg _ (congrArg _ hd), h.2⟩))
  have hB0 := Blk.new w 24 #[.int .i16 r.l, .int .i16 r.h, .int .i16 r.d, .int .i16 r.w, .int .i16 r.m, .int .i16 r.y, .int .i64 r.x]
  have HB := Lib.hid hB0
  have e1 : IntKind.i64.wrap r.l = r.l := IntWalk.i64_in _ (by have := hi.l; omega)
  have e2 : IntKind.i64.wrap r.h = r.h := IntWalk.i64_in _ (by have := hi.h; omega)
  have e3 : IntKind.i64.wrap r.d = r.d := IntWalk.i64_in _ (by have := hi.d; omega)
  have e4 : IntKind.i64.wrap r.w = r.w := IntWalk.i64_in _ (by have := hi.w; omega)
  have e5 : IntKind.i64.wrap r.m = r.m := IntWalk.i64_in _ (by have := hi.m; omega)
  have e6 : IntKind.i64.wrap r.y = r.y := IntWalk.i64_in _ (by have := hi.y; omega)
  clear hr hd hi hB0
  go_enter Tryd.func6, Tryd.ntmps6
  go_wp2_with (go_at_call 13; refine (HC.out _).mono ?_; rintro e w2 ⟨rfl, m2⟩; have M2 := Lib.hid m2; have B2 := Lib.hid (HB.out.mod m2 (fun c => c)); clear m2; have k0 := B2.out.cell 0; have k1 := B2.out.cell 1; have k2 := B2.out.cell 2; have k3 := B2.out.cell 3; have k4 := B2.out.cell 4; have k5 := B2.out.cell 5; have k6 := B2.out.cell 6; have hk2 := B2.out.lt)
  clear e1 e2 e3 e4 e5 e6 k0 k1 k2 k3 k4 k5 k6
  have M3 := Lib.hid (show Mod no w ((w2.alloc (.cells Ws.toArray 9)).alloc (.cells (Ns r).toArray 2)) from ((((Mod.refl no w).alloc _).and_then M2.out).alloc _).alloc _)
  have BW := Lib.hid ((Blk.new w2 9 Ws.toArray).alloc (.cells (Ns r).toArray 2))
  have BN := Lib.hid (Blk.new_at (n := w2.heap.size + 1) (w2.alloc (.cells Ws.toArray 9)) 2 (Ns r).toArray (by simp))
  go_loopw [7, 8] (fun (v7 v8 : Value) (wr : World) => QI w r v7 v8 wr ∧ Blk wr w2.heap.size 9 Ws.toArray ∧ Blk wr (w2.heap.size + 1) 2 (Ns r).toArray) (fun _ v8 _ => 7 - (intOf v8).toNat)
  case atStart => exact ⟨⟨0, [], Nat.zero_le _, rfl, rfl, rfl, Nat.le_refl _, M3.out⟩, BW.out, BN.out⟩
  case round =>
    obtain ⟨⟨k, X, hk, rfl, rfl, hq, hxl, hM⟩, hbw, hbn⟩ := hrel
    have HM := Lib.hid hM
    have HQ := Lib.hid hq
    have HXL := Lib.hid hxl
    clear hM hq hxl
    have hsx := sv_size X
    by_cases hk7 : k < 7
    · obtain ⟨p, hp⟩ : ∃ p, r.all[k]? = some p := ⟨_, List.getElem?_eq_getElem (by rw [all_len]; exact hk7)⟩
      have hkL : (k : Int) < 7 := by omega
      have hw64 : wrap64 ((k : Int) + 1) = (k : Int) + 1 := IntWalk.wrap64_in _ (by omega)
      have HP := Lib.hid (HN.out p (List.mem_of_getElem? hp))
      have hd : r.all.drop k = p :: r.all.drop (k + 1) := by rw [List.drop_eq_getElem_cons (by rw [all_len]; exact hk7)]; congr 1; exact (List.getElem?_eq_some_iff.1 hp).2
      have hwn := wn_at hp
      have c0 : wr.cell? ⟨w2.heap.size, k, none⟩ = some (.string (sv p.1)) := by rw [hbw.cell, List.getElem?_toArray]; exact hwn.1
      have c1 : wr.cell? ⟨w2.heap.size + 1, k, none⟩ = some (.int .i64 p.2) := by rw [hbn.cell, List.getElem?_toArray]; exact hwn.2.1
      have HPL := Lib.hid hwn.2.2
      have BW2 := Lib.hid hbw
      have BN2 := Lib.hid hbn
      have HK := Lib.hid hk7
      have HD := Lib.hid hd
      have HIL := Lib.hid (itoa_len HP.out.1 HP.out.2)
      clear hbw hbn hp hk7 hk hd hwn
      by_cases hz : p.2 = 0
      · have HZ := Lib.hid (show refP (r.all.drop (k + 1)) X = refP r.all [] by rw [← HQ.out, HD.out, refP, if_pos hz])
        clear hsx
        go_wp2_with fail
        go_round
        case rel => exact ⟨⟨k + 1, X, by have := HK.out; omega, rfl, by go_num, HZ.out, by have := HXL.out; omega, HM.out⟩, BW2.out, BN2.out⟩
        case measure => have := HK.out; simp only [intOf]; omega
      by_cases hx : X = []
      · subst hx
        have HE := Lib.hid (show refP (r.all.drop (k + 1)) ([] ++ p.1 ++ [32] ++ Lib.itoa p.2) = refP r.all [] by rw [← HQ.out, HD.out, refP, if_neg hz, if_pos rfl])
        have HL := Lib.hid (show ([] : Bytes).length + p.1.length + (1 + (Lib.itoa p.2).length) ≤ 28 * (k + 1) by have := HPL.out; have := HIL.out; simp only [List.length_nil]; omega)
        have g1 : (sv []).toList = [] := sv_list []
        have g2 : ((sv []).toList == []) = true := by rw [sv_list]; rfl
        have g3 : ((sv []).toList != []) = false := by rw [sv_list]; rfl
        clear hsx
        go_wp2_with fail
        refine wp_region_held_drew (S := fun w' => Mod no wr w' ∧ w'.cell? ⟨w2.heap.size, k, none⟩ = some (.string (sv p.1)) ∧ w'.cell? ⟨w2.heap.size + 1, k, none⟩ = some (.int .i64 p.2)) (by kernel_rfl) ⟨(Mod.refl no wr).drew, c0, c1⟩ (fun hHeld => ?_)
        refine takeD (i := 0) (d := some 50) (v := (.string (sv []))) rfl (by kernel_rfl) (by kernel_rfl) (by kernel_rfl) rfl (fun _ _ _ h => h) (Or.inl ⟨by kernel_rfl, fun w9 hw => y_move rfl rfl⟩) hHeld ?_
        simp only [Act.put, List.setIfInBounds_toArray, List.set_cons_zero, List.set_cons_succ]
        refine takeD (i := 1) (d := some 51) (v := (.slice (some ⟨w2.heap.size, 0, none⟩) 7 7)) rfl (by kernel_rfl) (by kernel_rfl) (by kernel_rfl) rfl (fun _ _ _ h => h) (Or.inl ⟨by kernel_rfl, fun w9 hw => y_move rfl rfl⟩) hHeld ?_
        simp only [Act.put, List.setIfInBounds_toArray, List.set_cons_zero, List.set_cons_succ]
        refine takeD (i := 2) (d := some 52) (v := (.int .i64 (k : Int))) rfl (by kernel_rfl) (by kernel_rfl) (by kernel_rfl) rfl (fun _ _ _ h => h) (Or.inl ⟨by kernel_rfl, fun w9 hw => y_move rfl rfl⟩) hHeld ?_
        simp only [Act.put, List.setIfInBounds_toArray, List.set_cons_zero, List.set_cons_succ]
        refine takeD (i := 3) (d := some 53) (v := (.pointer (some ⟨w2.heap.size, k, none⟩))) rfl (by kernel_rfl) (by kernel_rfl) (by kernel_rfl) rfl (fun _ _ _ h => h) (Or.inl ⟨by kernel_rfl, fun w9 hw => y_idxS rfl rfl rfl HK.out⟩) hHeld ?_
        simp only [Act.put, List.setIfInBounds_toArray, List.set_cons_zero, List.set_cons_succ]
        refine takeD (i := 4) (d := some 54) (v := (.string (sv p.1))) rfl (by kernel_rfl) (by kernel_rfl) (by kernel_rfl) rfl (fun _ _ _ h => h) (Or.inl ⟨by kernel_rfl, fun w9 hw => y_loadS rfl rfl hw.2.1⟩) hHeld ?_
        simp only [Act.put, List.setIfInBounds_toArray, List.set_cons_zero, List.set_cons_succ]
        refine takeD (i := 5) (d := some 55) (v := (.string (sv ([] ++ p.1)))) rfl (by kernel_rfl) (by kernel_rfl) (by kernel_rfl) rfl (fun _ _ _ h => h) (Or.inl ⟨by kernel_rfl, fun w9 hw => y_add rfl rfl rfl (by have := HL.out; omega)⟩) hHeld ?_
        simp only [Act.put, List.setIfInBounds_toArray, List.set_cons_zero, List.set_cons_succ]
        refine takeD (i := 6) (d := some 56) (v := (.string (sv ([] ++ p.1 ++ [32])))) rfl (by kernel_rfl) (by kernel_rfl) (by kernel_rfl) rfl (fun _ _ _ h => h) (Or.inl ⟨by kernel_rfl, fun w9 hw => y_add rfl rfl rfl (by have := HL.out; simp only [List.length_append, List.length_cons, List.length_nil] at this ⊢; omega)⟩) hHeld ?_
        simp only [Act.put, List.setIfInBounds_toArray, List.set_cons_zero, List.set_cons_succ]
        refine takeD (i := 7) (d := some 57) (v := (.slice (some ⟨w2.heap.size + 1, 0, none⟩) 7 7)) rfl (by kernel_rfl) (by kernel_rfl) (by kernel_rfl) rfl (fun _ _ _ h => h) (Or.inl ⟨by kernel_rfl, fun w9 hw => y_move rfl rfl⟩) hHeld ?_
        simp only [Act.put, List.setIfInBounds_toArray, List.set_cons_zero, List.set_cons_succ]
        refine takeD (i := 8) (d := some 58) (v := (.int .i64 (k : Int))) rfl (by kernel_rfl) (by kernel_rfl) (by kernel_rfl) rfl (fun _ _ _ h => h) (Or.inl ⟨by kernel_rfl, fun w9 hw => y_move rfl rfl⟩) hHeld ?_
        simp only [Act.put, List.setIfInBounds_toArray, List.set_cons_zero, List.set_cons_succ]
        refine takeD (i := 9) (d := some 59) (v := (.pointer (some ⟨w2.heap.size + 1, k, none⟩))) rfl (by kernel_rfl) (by kernel_rfl) (by kernel_rfl) rfl (fun _ _ _ h => h) (Or.inl ⟨by kernel_rfl, fun w9 hw => y_idxN rfl rfl rfl HK.out⟩) hHeld ?_
        simp only [Act.put, List.setIfInBounds_toArray, List.set_cons_zero, List.set_cons_succ]
        refine takeD (i := 10) (d := some 60) (v := (.int .i64 p.2)) rfl (by kernel_rfl) (by kernel_rfl) (by kernel_rfl) rfl (fun _ _ _ h => h) (Or.inl ⟨by kernel_rfl, fun w9 hw => y_loadN rfl rfl hw.2.2⟩) hHeld ?_
        simp only [Act.put, List.setIfInBounds_toArray, List.set_cons_zero, List.set_cons_succ]
        refine readyD (i := 11) (d := some 61) rfl (by kernel_rfl) rfl (by kernel_rfl) fun K hK => ?_
        refine op_digits rfl rfl (digits_any HP.out.1 HP.out.2) ?_
        rintro e w4 ⟨rfl, m4⟩
        refine ⟨_, rfl, hK _ _ ⟨hHeld.1.and_then m4, (((BW2.out.mod (hHeld.1.and_then m4) (fun c => c)).cell k).trans ((BW2.out.cell k).symm.trans c0)), (((BN2.out.mod (hHeld.1.and_then m4) (fun c => c)).cell k).trans ((BN2.out.cell k).symm.trans c1))⟩ fun hHeld4 => ?_⟩
        clear hK K hHeld
        simp only [Act.put, List.setIfInBounds_toArray, List.set_cons_zero, List.set_cons_succ]
        refine takeD (i := 12) (d := some 62) (v := (.string (sv ([] ++ p.1 ++ [32] ++ Lib.itoa p.2)))) rfl (by kernel_rfl) (by kernel_rfl) (by kernel_rfl) rfl (fun _ _ _ h => h) (Or.inl ⟨by kernel_rfl, fun w9 hw => y_add rfl rfl rfl (by have := HL.out; simp only [List.length_append, List.length_cons, List.length_nil] at this ⊢; omega)⟩) hHeld4 ?_
        simp only [Act.put, List.setIfInBounds_toArray, List.set_cons_zero, List.set_cons_succ]
        refine readyD (i := 13) (d := some 7) rfl (by kernel_rfl) rfl (by kernel_rfl) fun K hK => ?_
        refine op_yield (y_assign rfl rfl) ?_
        refine hK _ _ hHeld4 (fun hHeld7 => ?_)
        clear hK K hHeld4
        simp only [Act.put, List.setIfInBounds_toArray, List.set_cons_zero, List.set_cons_succ]
        refine wpAnyH_done (by kernel_rfl) ?_ _
        go_wp2_with fail
        go_round
        case rel => exact ⟨⟨k + 1, _, by have := HK.out; omega, rfl, by go_num, HE.out, by have := HL.out; simp only [List.length_append, List.length_cons, List.length_nil] at this ⊢; omega, HM.out.and_then hHeld7.1⟩, BW2.out.mod hHeld7.1 (fun c => c), BN2.out.mod hHeld7.1 (fun c => c)⟩
        case measure => have := HK.out; simp only [intOf]; omega
      · have g1 : ¬ (sv X).toList = [] := by rw [sv_list]; exact hx
        have g2 : ((sv X).toList == []) = false := by rw [sv_list]; simpa using hx
        have g3 : ((sv X).toList != []) = true := by rw [sv_list]; simpa using hx
        have HE := Lib.hid (show refP (r.all.drop (k + 1)) ((X ++ [32]) ++ p.1 ++ [32] ++ Lib.itoa p.2) = refP r.all [] by rw [← HQ.out, HD.out, refP, if_neg hz, if_neg hx])
        have HL := Lib.hid (show (X ++ [32]).length + p.1.length + (1 + (Lib.itoa p.2).length) ≤ 28 * (k + 1) by have := HPL.out; have := HIL.out; have := HXL.out; rw [List.length_append, List.length_singleton]; omega)
        have hfold : sv X ++ {data := #[32]} = sv (X ++ [32]) := sv_append X [32]
        have hxx : X.length ≤ 1000 := by have := HXL.out; have := HK.out; omega
        clear hx
        go_wp2_with fail
        refine wp_region_held_drew (S := fun w' => Mod no wr w' ∧ w'.cell? ⟨w2.heap.size, k, none⟩ = some (.string (sv p.1)) ∧ w'.cell? ⟨w2.heap.size + 1, k, none⟩ = some (.int .i64 p.2)) (by kernel_rfl) ⟨(Mod.refl no wr).drew, c0, c1⟩ (fun hHeld => ?_)
        refine takeD (i := 0) (d := some 50) (v := (.string (sv (X ++ [32])))) rfl (by kernel_rfl) (by kernel_rfl) (by kernel_rfl) rfl (fun _ _ _ h => h) (Or.inl ⟨by kernel_rfl, fun w9 hw => y_move rfl rfl⟩) hHeld ?_
        simp only [Act.put, List.setIfInBounds_toArray, List.set_cons_zero, List.set_cons_succ]
        refine takeD (i := 1) (d := some 51) (v := (.slice (some ⟨w2.heap.size, 0, none⟩) 7 7)) rfl (by kernel_rfl) (by kernel_rfl) (by kernel_rfl) rfl (fun _ _ _ h => h) (Or.inl ⟨by kernel_rfl, fun w9 hw => y_move rfl rfl⟩) hHeld ?_
        simp only [Act.put, List.setIfInBounds_toArray, List.set_cons_zero, List.set_cons_succ]
        refine takeD (i := 2) (d := some 52) (v := (.int .i64 (k : Int))) rfl (by kernel_rfl) (by kernel_rfl) (by kernel_rfl) rfl (fun _ _ _ h => h) (Or.inl ⟨by kernel_rfl, fun w9 hw => y_move rfl rfl⟩) hHeld ?_
        simp only [Act.put, List.setIfInBounds_toArray, List.set_cons_zero, List.set_cons_succ]
        refine takeD (i := 3) (d := some 53) (v := (.pointer (some ⟨w2.heap.size, k, none⟩))) rfl (by kernel_rfl) (by kernel_rfl) (by kernel_rfl) rfl (fun _ _ _ h => h) (Or.inl ⟨by kernel_rfl, fun w9 hw => y_idxS rfl rfl rfl HK.out⟩) hHeld ?_
        simp only [Act.put, List.setIfInBounds_toArray, List.set_cons_zero, List.set_cons_succ]
        refine takeD (i := 4) (d := some 54) (v := (.string (sv p.1))) rfl (by kernel_rfl) (by kernel_rfl) (by kernel_rfl) rfl (fun _ _ _ h => h) (Or.inl ⟨by kernel_rfl, fun w9 hw => y_loadS rfl rfl hw.2.1⟩) hHeld ?_
        simp only [Act.put, List.setIfInBounds_toArray, List.set_cons_zero, List.set_cons_succ]
        refine takeD (i := 5) (d := some 55) (v := (.string (sv ((X ++ [32]) ++ p.1)))) rfl (by kernel_rfl) (by kernel_rfl) (by kernel_rfl) rfl (fun _ _ _ h => h) (Or.inl ⟨by kernel_rfl, fun w9 hw => y_add rfl rfl rfl (by have := HL.out; omega)⟩) hHeld ?_
        simp only [Act.put, List.setIfInBounds_toArray, List.set_cons_zero, List.set_cons_succ]
        refine takeD (i := 6) (d := some 56) (v := (.string (sv ((X ++ [32]) ++ p.1 ++ [32])))) rfl (by kernel_rfl) (by kernel_rfl) (by kernel_rfl) rfl (fun _ _ _ h => h) (Or.inl ⟨by kernel_rfl, fun w9 hw => y_add rfl rfl rfl (by have := HL.out; simp only [List.length_append, List.length_cons, List.length_nil] at this ⊢; omega)⟩) hHeld ?_
        simp only [Act.put, List.setIfInBounds_toArray, List.set_cons_zero, List.set_cons_succ]
        refine takeD (i := 7) (d := some 57) (v := (.slice (some ⟨w2.heap.size + 1, 0, none⟩) 7 7)) rfl (by kernel_rfl) (by kernel_rfl) (by kernel_rfl) rfl (fun _ _ _ h => h) (Or.inl ⟨by kernel_rfl, fun w9 hw => y_move rfl rfl⟩) hHeld ?_
        simp only [Act.put, List.setIfInBounds_toArray, List.set_cons_zero, List.set_cons_succ]
        refine takeD (i := 8) (d := some 58) (v := (.int .i64 (k : Int))) rfl (by kernel_rfl) (by kernel_rfl) (by kernel_rfl) rfl (fun _ _ _ h => h) (Or.inl ⟨by kernel_rfl, fun w9 hw => y_move rfl rfl⟩) hHeld ?_
        simp only [Act.put, List.setIfInBounds_toArray, List.set_cons_zero, List.set_cons_succ]
        refine takeD (i := 9) (d := some 59) (v := (.pointer (some ⟨w2.heap.size + 1, k, none⟩))) rfl (by kernel_rfl) (by kernel_rfl) (by kernel_rfl) rfl (fun _ _ _ h => h) (Or.inl ⟨by kernel_rfl, fun w9 hw => y_idxN rfl rfl rfl HK.out⟩) hHeld ?_
        simp only [Act.put, List.setIfInBounds_toArray, List.set_cons_zero, List.set_cons_succ]
        refine takeD (i := 10) (d := some 60) (v := (.int .i64 p.2)) rfl (by kernel_rfl) (by kernel_rfl) (by kernel_rfl) rfl (fun _ _ _ h => h) (Or.inl ⟨by kernel_rfl, fun w9 hw => y_loadN rfl rfl hw.2.2⟩) hHeld ?_
        simp only [Act.put, List.setIfInBounds_toArray, List.set_cons_zero, List.set_cons_succ]
        refine readyD (i := 11) (d := some 61) rfl (by kernel_rfl) rfl (by kernel_rfl) fun K hK => ?_
        refine op_digits rfl rfl (digits_any HP.out.1 HP.out.2) ?_
        rintro e w4 ⟨rfl, m4⟩
        refine ⟨_, rfl, hK _ _ ⟨hHeld.1.and_then m4, (((BW2.out.mod (hHeld.1.and_then m4) (fun c => c)).cell k).trans ((BW2.out.cell k).symm.trans c0)), (((BN2.out.mod (hHeld.1.and_then m4) (fun c => c)).cell k).trans ((BN2.out.cell k).symm.trans c1))⟩ fun hHeld4 => ?_⟩
        clear hK K hHeld
        simp only [Act.put, List.setIfInBounds_toArray, List.set_cons_zero, List.set_cons_succ]
        refine takeD (i := 12) (d := some 62) (v := (.string (sv ((X ++ [32]) ++ p.1 ++ [32] ++ Lib.itoa p.2)))) rfl (by kernel_rfl) (by kernel_rfl) (by kernel_rfl) rfl (fun _ _ _ h => h) (Or.inl ⟨by kernel_rfl, fun w9 hw => y_add rfl rfl rfl (by have := HL.out; simp only [List.length_append, List.length_cons, List.length_nil] at this ⊢; omega)⟩) hHeld4 ?_
        simp only [Act.put, List.setIfInBounds_toArray, List.set_cons_zero, List.set_cons_succ]
        refine readyD (i := 13) (d := some 7) rfl (by kernel_rfl) rfl (by kernel_rfl) fun K hK => ?_
        refine op_yield (y_assign rfl rfl) ?_
        refine hK _ _ hHeld4 (fun hHeld7 => ?_)
        clear hK K hHeld4
        simp only [Act.put, List.setIfInBounds_toArray, List.set_cons_zero, List.set_cons_succ]
        refine wpAnyH_done (by kernel_rfl) ?_ _
        go_wp2_with fail
        go_round
        case rel => exact ⟨⟨k + 1, _, by have := HK.out; omega, rfl, by go_num, HE.out, by have := HL.out; simp only [List.length_append, List.length_cons, List.length_nil] at this ⊢; omega, HM.out.and_then hHeld7.1⟩, BW2.out.mod hHeld7.1 (fun c => c), BN2.out.mod hHeld7.1 (fun c => c)⟩
        case measure => have := HK.out; simp only [intOf]; omega
    · obtain rfl : k = 7 := by omega
      have hkL : ¬ ((7 : Nat) : Int) < 7 := by decide
      have HE := Lib.hid (refP_text r)
      have hx7 : X = refP r.all [] := HQ.out
      rw [← hx7] at HE
      have HX := Lib.hid hx7
      clear hx7
      by_cases hx : X = []
      · subst hx
        have g1 : (sv []).toList = [] := sv_list []
        have g2 : ((sv []).toList == []) = true := by rw [sv_list]; rfl
        have HT := Lib.hid (show r.text = noneB by rw [← HE.out, if_pos rfl])
        clear hsx
        go_wp2_with fail
        go_ret2
        exact ⟨HM.out, .inl ⟨HR.out, by rw [HT.out]; rfl⟩⟩
      · have g1 : ¬ (sv X).toList = [] := by rw [sv_list]; exact hx
        have g2 : ((sv X).toList == []) = false := by rw [sv_list]; simpa using hx
        have HT := Lib.hid (show r.text = X by rw [← HE.out, if_neg hx])
        clear hx hsx
        go_wp2_with fail
        go_ret2
        exact ⟨HM.out, .inl ⟨HR.out, by rw [HT.out]; rfl⟩⟩
end Go.Proofs.YtoncjoelkenjnaaDoor.KR
