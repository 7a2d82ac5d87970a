/- A table's grow. -/
import Derived.Test.YtknbehjhaaidoaaTbI
import Derived.BigQuiet
namespace Go.Proofs.Ytknbehjhaaidoaa.TB
open Go.RowKit Mem HD
set_option linter.unusedVariables false
set_option linter.unusedSimpArgs false

theorem op_storeP {a : Act} {o : Oper} {w : World} {K : Act → World → Prop} {Q : Exit → Act → World → Prop} {x y : Operand} {b i : Nat} {q : Option Addr} {u : Value} (ho : o.op = .store 124 x y) (hx : a.eval x = .pointer (some ⟨b, i, none⟩)) (hy : a.eval y = .pointer q)
    (hc : w.cell? ⟨b, i, none⟩ = some u) (hf : w.frozen? ⟨b, i, none⟩ = false) (hK : K (a.put o.dst undef) (w.setCell ⟨b, i, none⟩ (.pointer q))) : Oper.wp Try.prog o a w K Q := by
  unfold Oper.wp execOp
  simp only [ho, hx, hy]
  go_simp
  exact hK
theorem op_storeI {a : Act} {o : Oper} {w : World} {K : Act → World → Prop} {Q : Exit → Act → World → Prop} {x y : Operand} {b i : Nat} {z : Int} {u : Value} (ho : o.op = .store 3 x y) (hx : a.eval x = .pointer (some ⟨b, i, none⟩)) (hy : a.eval y = .int .i64 z)
    (hc : w.cell? ⟨b, i, none⟩ = some u) (hf : w.frozen? ⟨b, i, none⟩ = false) (hK : K (a.put o.dst undef) (w.setCell ⟨b, i, none⟩ (.int .i64 z))) : Oper.wp Try.prog o a w K Q := by
  unfold Oper.wp execOp
  simp only [ho, hx, hy]
  go_simp
  exact hK
/-- What a table's blocks may be behind a call. -/
def ext (R : Nat → Prop) (w w' : World) (k : Nat) : Prop := R k ∨ (w.heap.size ≤ k ∧ k < w'.heap.size)
theorem ext_le {R : Nat → Prop} {w w' : World} : ∀ k, R k → ext R w w' k := fun _ h => .inl h
theorem pow_two {n : Nat} (h : Pow n) (hn : 2 * n ≤ 1099511627776) : Pow (n * 2) := by
  obtain ⟨e, h1, h2, rfl⟩ := h
  have h3 : 2 ^ (e + 1) ≤ 2 ^ 40 := by rw [Nat.pow_succ]; omega
  have h4 := (Nat.pow_le_pow_iff_right (a := 2) (by decide)).1 h3
  exact ⟨e + 1, by omega, h4, by rw [Nat.pow_succ]⟩
def GI (w : World) (n0 : Nat) (v2 : Value) (wr : World) : Prop := ∃ n : Nat, Pow n ∧ n0 ≤ n ∧ v2 = .int .i64 (n : Int) ∧ wr = w
set_option maxRecDepth 100000 in
set_option maxHeartbeats 4000000 in
theorem grow_any {w : World} {g ya ys : Nat} {R : Nat → Prop} {t : Tab Key Ent} {po : Option Addr} (ht : TabM w g R t ya ys po) (hw : WF hash 0 t) (hw1 : t.o ≠ none → WF hash 1 t) (hb : t.L.length ≤ 1073741824) :
    Calls Try.prog 90 #[.pointer (some ⟨g, 0, none⟩)] w fun e w' => e = .returned (.tuple #[]) ∧ (∃ t', WF hash 1 t' ∧ t'.L = t.L ∧ TabAt w' g (ext R w w') t') ∧ Mod R w w' := by
  have c1 := ht.b.cell 1
  have c2 := ht.b.cell 2
  have a0 := ht.y.a.cell 0
  have a1 := ht.y.a.cell 1
  have a2 := ht.y.a.cell 2
  have hyb := hw.py.bd
  have hle := ents_le t.y
  obtain ⟨n0, hn0⟩ : ∃ n0, n0 = t.y.length := ⟨_, rfl⟩
  obtain ⟨u, hu⟩ : ∃ u, u = (ents t.y).length := ⟨_, rfl⟩
  obtain ⟨tt, htt⟩ : ∃ tt, tt = tombs t.y := ⟨_, rfl⟩
  rw [← hn0] at a0 hyb hle
  rw [← hu] at a1 hle
  rw [← htt] at a2 hle
  have HB := Lib.hid (And.intro hyb hle)
  have HT := Lib.hid ht
  have HW := Lib.hid (And.intro hw (And.intro hw1 hb))
  have HN := Lib.hid (And.intro hn0 (And.intro hu htt))
  cases hto : t.o with
  | some l =>
    have hpo := ht.o
    rw [hto] at hpo
    obtain ⟨oa, os, rfl, _⟩ := hpo
    have HTO := Lib.hid hto
    clear ht hw hw1 hb hyb hle hto hn0 hu htt
    go_enter Try.func90, Try.ntmps90
    go_wp2_with fail
    go_quiet (fail)
    go_wp2_with fail
    refine bodyPost_ret (v := .tuple #[]) (results_none rfl _ _ _) rfl ⟨rfl, ⟨t, HW.out.2.1 (by rw [HTO.out]; simp), rfl, ya, ys, _, (HT.out.mod ((Mod.refl no w).drewN nq) (fun _ _ c => c)).mono ext_le⟩, (Mod.refl R w).drewN nq⟩
  | none =>
    have hpo := ht.o
    rw [hto] at hpo
    have hpo : po = none := hpo
    subst hpo
    have HTO := Lib.hid hto
    have wr1 : wrap64 ((u : Int) + (tt : Int)) = (u : Int) + (tt : Int) := IntWalk.wrap64_in _ (by omega)
    have wr2 : wrap64 (4 * ((u : Int) + (tt : Int))) = 4 * ((u : Int) + (tt : Int)) := IntWalk.wrap64_in _ (by omega)
    have wr3 : wrap64 (3 * (n0 : Int)) = 3 * (n0 : Int) := IntWalk.wrap64_in _ (by omega)
    by_cases hc : 4 * (u + tt) ≤ 3 * n0
    · have hd : decide (4 * ((u : Int) + (tt : Int)) ≤ 3 * (n0 : Int)) = true := decide_eq_true (by clear wr1 wr2 wr3; omega)
      have hd2 : 4 * ((u : Int) + (tt : Int)) ≤ 3 * (n0 : Int) := by clear wr1 wr2 wr3; omega
      have HC := Lib.hid hc
      clear ht hw hw1 hb hyb hle hto hn0 hu htt hc
      go_enter Try.func90, Try.ntmps90
      go_wp2_with fail
      go_quiet (fail)
      go_wp2_with fail
      refine bodyPost_ret (v := .tuple #[]) (results_none rfl _ _ _) rfl ⟨rfl, ⟨t, HW.out.1.still HTO.out (by rw [← HN.out.1, ← HN.out.2.1, ← HN.out.2.2]; exact HC.out), rfl, ya, ys, _, (HT.out.mod ((Mod.refl no w).drewN nq) (fun _ _ c => c)).mono ext_le⟩, (Mod.refl R w).drewN nq⟩
    · have hd : decide (4 * ((u : Int) + (tt : Int)) ≤ 3 * (n0 : Int)) = false := decide_eq_false (by clear wr1 wr2 wr3; omega)
      have hd2 : ¬ 4 * ((u : Int) + (tt : Int)) ≤ 3 * (n0 : Int) := by clear wr1 wr2 wr3; omega
      clear ht hw hw1 hb hyb hle hto hn0 hu htt hc
      go_enter Try.func90, Try.ntmps90
      go_wp2_with fail
      go_quiet (fail)
      clear hd hd2 wr1 wr2 wr3
      have ht1 := HT.out.mod ((Mod.refl no w).drewN nq) (fun _ _ c => c)
      have HT1 := Lib.hid (And.intro ht1 ((Mod.refl R w).drewN nq))
      obtain ⟨w1, hw1⟩ : ∃ w1, w1 = w.drewN nq := ⟨_, rfl⟩
      rw [← hw1] at HT1 ⊢
      have hsz : w1.heap.size = w.heap.size := by rw [hw1]; rfl
      have HSZ := Lib.hid hsz
      clear ht1 hw1 hsz c1 c2 a0 a1 a2
      go_wp2_with fail
      go_loopw [2] (GI w1 n0) (fun v _ => 4294967296 - (intOf v).toNat)
      case atStart => exact ⟨n0, by rw [HN.out.1]; exact HW.out.1.py, Nat.le_refl _, rfl, rfl⟩
      case round =>
        obtain ⟨n, hp, hn, rfl, rfl⟩ := hrel
        have hlen := len_any ⟨ya, ys, _, HT1.out.1⟩ HW.out.1
        obtain ⟨LL, hLL⟩ : ∃ LL, LL = t.L.length := ⟨_, rfl⟩
        rw [← hLL] at hlen
        have HLN := Lib.hid hlen
        have hbb : LL ≤ 1073741824 := by rw [hLL]; exact HW.out.2.2
        have HLL := Lib.hid hLL
        have hpb := hp.bd
        have HP := Lib.hid (And.intro hp hn)
        by_cases hlt : n < 2 * LL + 2
        · have g1 : (n : Int) < 2 * (LL : Int) + 2 := by omega
          have w1' : wrap64 (2 * (LL : Int)) = 2 * (LL : Int) := IntWalk.wrap64_in _ (by omega)
          have w2' : wrap64 (2 * (LL : Int) + 2) = 2 * (LL : Int) + 2 := IntWalk.wrap64_in _ (by omega)
          have w3' : wrap64 ((n : Int) * 2) = (n : Int) * 2 := IntWalk.wrap64_in _ (by omega)
          have HX := Lib.hid (And.intro hlt hbb)
          clear hlen hLL hbb hpb hp hn hlt
          go_wp2_with (first | (go_at_call 91; refine HLN.out.mono ?_; rintro e w' ⟨rfl, rfl⟩))
          go_roundw
          case rel => exact ⟨n * 2, pow_two HP.out.1 (by have := HX.out; omega), by have := HP.out.2; omega, by first | (rw [Int.natCast_mul]; rfl) | (rw [w3', Int.natCast_mul]; rfl), rfl⟩
          case measure =>
            have h1 := HX.out
            have h2 := HP.out.1.bd
            try rw [w3']
            clear w1' w2' w3'
            show 4294967296 - ((n : Int) * 2).toNat < 4294967296 - ((n : Int)).toNat
            omega
        · have g1 : ¬ (n : Int) < 2 * (LL : Int) + 2 := by omega
          have w1' : wrap64 (2 * (LL : Int)) = 2 * (LL : Int) := IntWalk.wrap64_in _ (by omega)
          have w2' : wrap64 (2 * (LL : Int) + 2) = 2 * (LL : Int) + 2 := IntWalk.wrap64_in _ (by omega)
          have HX := Lib.hid (And.intro hlt hbb)
          clear hlen hLL hbb hpb hp hn hlt
          go_upto_region 4 with (first | (go_at_call 91; refine HLN.out.mono ?_; rintro e wr ⟨rfl, rfl⟩))
          refine wp_region_held_drew (S := fun _ => True) (by kernel_rfl) trivial (fun hHeld => ?_)
          refine takeD (i := 0) (d := some 45) (v := (.pointer (some ⟨g, 0, none⟩))) rfl (by kernel_rfl) (by kernel_rfl) (by kernel_rfl) rfl (fun _ _ _ h => h) (Or.inl ⟨by kernel_rfl, fun w9 hw => y_move rfl rfl⟩) hHeld ?_
          simp only [Act.put, List.setIfInBounds_toArray, List.set_cons_zero, List.set_cons_succ]
          refine takeD (i := 1) (d := some 46) (v := (.pointer (some ⟨g, 0, none⟩))) rfl (by kernel_rfl) (by kernel_rfl) (by kernel_rfl) rfl (fun _ _ _ h => h) (Or.inl ⟨by kernel_rfl, fun w9 hw => y_move rfl rfl⟩) hHeld ?_
          simp only [Act.put, List.setIfInBounds_toArray, List.set_cons_zero, List.set_cons_succ]
          refine takeD (i := 2) (d := some 47) (v := (.pointer (some ⟨g, 0, none⟩))) rfl (by kernel_rfl) (by kernel_rfl) (by kernel_rfl) rfl (fun _ _ _ h => h) (Or.inl ⟨by kernel_rfl, fun w9 hw => y_move rfl rfl⟩) hHeld ?_
          simp only [Act.put, List.setIfInBounds_toArray, List.set_cons_zero, List.set_cons_succ]
          refine takeD (i := 3) (d := some 48) (v := (.pointer (some ⟨g, 0, none⟩))) rfl (by kernel_rfl) (by kernel_rfl) (by kernel_rfl) rfl (fun _ _ _ h => h) (Or.inl ⟨by kernel_rfl, fun w9 hw => y_move rfl rfl⟩) hHeld ?_
          simp only [Act.put, List.setIfInBounds_toArray, List.set_cons_zero, List.set_cons_succ]
          refine takeD (i := 4) (d := some 49) (v := (.pointer (some ⟨g, 0, none⟩))) rfl (by kernel_rfl) (by kernel_rfl) (by kernel_rfl) rfl (fun _ _ _ h => h) (Or.inl ⟨by kernel_rfl, fun w9 hw => y_nil rfl rfl⟩) hHeld ?_
          simp only [Act.put, List.setIfInBounds_toArray, List.set_cons_zero, List.set_cons_succ]
          refine takeD (i := 5) (d := some 50) (v := (.pointer (some ⟨g, 1, none⟩))) rfl (by kernel_rfl) (by kernel_rfl) (by kernel_rfl) rfl (fun _ _ _ h => h) (Or.inl ⟨by kernel_rfl, fun w9 hw => y_ft (by decide) rfl rfl⟩) hHeld ?_
          simp only [Act.put, List.setIfInBounds_toArray, List.set_cons_zero, List.set_cons_succ]
          refine takeD (i := 7) (d := some 52) (v := (.int .i64 (n : Int))) rfl (by kernel_rfl) (by kernel_rfl) (by kernel_rfl) rfl (fun _ _ _ h => h) (Or.inl ⟨by kernel_rfl, fun w9 hw => y_move rfl rfl⟩) hHeld ?_
          simp only [Act.put, List.setIfInBounds_toArray, List.set_cons_zero, List.set_cons_succ]
          refine wpAnyH_ready (rs := [6, 8]) (by kernel_rfl) (by simp) (aOne (i := 6) (d := some 51) rfl rfl (by kernel_rfl) (fun K hK => ?_) (aOne (i := 8) (d := some 53) rfl rfl (by kernel_rfl) (fun K hK => ?_) AllReadyH.nil))
          · refine op_yield (y_one rfl (by decide) rfl (HT1.out.1.drew.b.cell 1) rfl) ?_
            refine hK _ _ trivial fun _ => ?_
            clear hK K
            simp only [Act.put, List.setIfInBounds_toArray, List.set_cons_zero, List.set_cons_succ]
            refine readyD (i := 8) (d := some 53) rfl (by kernel_rfl) rfl (by kernel_rfl) fun K hK => ?_
            refine op_c1 (fun _ _ => rfl) rfl rfl (newArray_any n HP.out.1.bd.2.1 _) ?_
            rintro e w5 ⟨na, ns, rfl, ha5, hs1, hs2, hm5⟩
            refine ⟨_, rfl, hK _ _ trivial fun _ => ?_⟩
            clear hK K
            simp only [Act.put, List.setIfInBounds_toArray, List.set_cons_zero, List.set_cons_succ]
            have H5 := Lib.hid (show ArrAt w5 na ns (List.replicate n .empty) 0 0 ∧ wr.heap.size ≤ na ∧ wr.heap.size ≤ ns ∧ Mod no wr w5 from ⟨ha5, hs1, hs2, (Mod.refl no wr).drew.and_then hm5⟩)
            clear ha5 hs1 hs2 hm5
            have HB5 := Lib.hid (HT1.out.1.b.mod H5.out.2.2.2 (fun c => c))
            refine takeD (i := 9) (d := some 54) (v := (.pointer (some ⟨g, 0, none⟩))) rfl (by kernel_rfl) (by kernel_rfl) (by kernel_rfl) rfl (fun _ _ _ h => h) (Or.inl ⟨by kernel_rfl, fun w9 hw => y_nil rfl rfl⟩) trivial ?_
            simp only [Act.put, List.setIfInBounds_toArray, List.set_cons_zero, List.set_cons_succ]
            refine takeD (i := 10) (d := some 55) (v := (.pointer (some ⟨g, 2, none⟩))) rfl (by kernel_rfl) (by kernel_rfl) (by kernel_rfl) rfl (fun _ _ _ h => h) (Or.inl ⟨by kernel_rfl, fun w9 hw => y_ft (by decide) rfl rfl⟩) trivial ?_
            simp only [Act.put, List.setIfInBounds_toArray, List.set_cons_zero, List.set_cons_succ]
            refine readyD (i := 11) (d := none) rfl (by kernel_rfl) rfl (by kernel_rfl) fun K hK => ?_
            refine op_storeP rfl rfl rfl (HB5.out.cell 2) (HB5.out.free 2) ?_
            refine hK _ _ trivial fun _ => ?_
            clear hK K
            simp only [Act.put, List.setIfInBounds_toArray, List.set_cons_zero, List.set_cons_succ]
            refine takeD (i := 12) (d := some 56) (v := (.pointer (some ⟨g, 0, none⟩))) rfl (by kernel_rfl) (by kernel_rfl) (by kernel_rfl) rfl (fun _ _ _ h => h) (Or.inl ⟨by kernel_rfl, fun w9 hw => y_nil rfl rfl⟩) trivial ?_
            simp only [Act.put, List.setIfInBounds_toArray, List.set_cons_zero, List.set_cons_succ]
            refine takeD (i := 13) (d := some 57) (v := (.pointer (some ⟨g, 1, none⟩))) rfl (by kernel_rfl) (by kernel_rfl) (by kernel_rfl) rfl (fun _ _ _ h => h) (Or.inl ⟨by kernel_rfl, fun w9 hw => y_ft (by decide) rfl rfl⟩) trivial ?_
            simp only [Act.put, List.setIfInBounds_toArray, List.set_cons_zero, List.set_cons_succ]
            refine readyD (i := 14) (d := none) rfl (by kernel_rfl) rfl (by kernel_rfl) fun K hK => ?_
            refine op_storeP rfl rfl rfl ((HB5.out.put 2 (.pointer (some ⟨ya, 0, none⟩))).cell 1) ((HB5.out.put 2 (.pointer (some ⟨ya, 0, none⟩))).free 1) ?_
            refine hK _ _ trivial fun _ => ?_
            clear hK K
            simp only [Act.put, List.setIfInBounds_toArray, List.set_cons_zero, List.set_cons_succ]
            refine takeD (i := 15) (d := some 58) (v := (.pointer (some ⟨g, 0, none⟩))) rfl (by kernel_rfl) (by kernel_rfl) (by kernel_rfl) rfl (fun _ _ _ h => h) (Or.inl ⟨by kernel_rfl, fun w9 hw => y_nil rfl rfl⟩) trivial ?_
            simp only [Act.put, List.setIfInBounds_toArray, List.set_cons_zero, List.set_cons_succ]
            refine takeD (i := 16) (d := some 59) (v := (.pointer (some ⟨g, 3, none⟩))) rfl (by kernel_rfl) (by kernel_rfl) (by kernel_rfl) rfl (fun _ _ _ h => h) (Or.inl ⟨by kernel_rfl, fun w9 hw => y_ft (by decide) rfl rfl⟩) trivial ?_
            simp only [Act.put, List.setIfInBounds_toArray, List.set_cons_zero, List.set_cons_succ]
            refine readyD (i := 17) (d := none) rfl (by kernel_rfl) rfl (by kernel_rfl) fun K hK => ?_
            refine op_storeI rfl rfl rfl (((HB5.out.put 2 (.pointer (some ⟨ya, 0, none⟩))).put 1 (.pointer (some ⟨na, 0, none⟩))).cell 3) (((HB5.out.put 2 (.pointer (some ⟨ya, 0, none⟩))).put 1 (.pointer (some ⟨na, 0, none⟩))).free 3) ?_
            refine hK _ _ trivial fun _ => ?_
            clear hK K
            simp only [Act.put, List.setIfInBounds_toArray, List.set_cons_zero, List.set_cons_succ]
            refine wpAnyH_done (by kernel_rfl) ?_ _
            obtain ⟨w6, hw6⟩ : ∃ w6, w6 = ((w5.setCell ⟨g, 2, none⟩ (.pointer (some ⟨ya, 0, none⟩))).setCell ⟨g, 1, none⟩ (.pointer (some ⟨na, 0, none⟩))).setCell ⟨g, 3, none⟩ (.int .i64 0) := ⟨_, rfl⟩
            have hm6 : Mod (one g) w5 w6 := by rw [hw6]; exact (((Mod.refl (one g) w5).set (p := ⟨g, 2, none⟩) (fun _ => (rfl : one g g)) _).set (p := ⟨g, 1, none⟩) (fun _ => (rfl : one g g)) _).set (p := ⟨g, 3, none⟩) (fun _ => (rfl : one g g)) _
            have hb6 : Blk w6 g 127 #[hashV, .pointer (some ⟨na, 0, none⟩), .pointer (some ⟨ya, 0, none⟩), .int .i64 ((0 : Nat) : Int)] := by rw [hw6]; exact ((HB5.out.put 2 (.pointer (some ⟨ya, 0, none⟩))).put 1 (.pointer (some ⟨na, 0, none⟩))).put 3 (.int .i64 0)
            rw [← hw6]
            have hs6 : w6.heap.size = w5.heap.size := by rw [hw6]; simp [World.setCell]
            have HM6 := Lib.hid (And.intro hm6 (And.intro hb6 hs6))
            clear hw6 hm6 hb6 hs6
            go_wp2_with fail
            go_end0
            have hT := HT1.out.1
            have hgl := hT.b.lt
            have hyl := hT.y.a.lt
            have hsl := hT.y.s.lt
            have e1 : ¬ one g ya := fun c => hT.b.ne hT.y.a (by decide) c.symm
            have e2 : ¬ one g ys := fun c => hT.b.ne hT.y.s (by decide) c.symm
            have e3 : ¬ one g na := fun c => by have c : na = g := c; have := H5.out.2.1; omega
            have e4 : ¬ one g ns := fun c => by have c : ns = g := c; have := H5.out.2.2.1; omega
            have hA6 := H5.out.1.mod HM6.out.1 e3 e4
            have hY6 := (hT.y.mod H5.out.2.2.2 (fun c => c) (fun c => c)).mod HM6.out.1 e1 e2
            obtain ⟨hwf, hL⟩ := HW.out.1.grown HTO.out HP.out.1 (by rw [← HN.out.1]; exact HP.out.2) (by rw [← HLL.out]; have := HX.out; omega)
            have x1 := H5.out.1.a.lt
            have x2 := H5.out.1.s.lt
            have x3 := HM6.out.2.2
            have x4 := HSZ.out
            have x5 := H5.out.2.1
            have x6 := H5.out.2.2.1
            refine ⟨rfl, ⟨⟨List.replicate n .empty, some t.y, 0⟩, hwf, hL, na, ns, some ⟨ya, 0, none⟩, HM6.out.2.1, ?_, ⟨ya, ys, rfl, hY6, .inl hT.ry, .inl hT.rs, fun c => by omega, fun c => by omega⟩, .inl hT.rg, .inr ⟨by omega, by omega⟩, .inr ⟨by omega, by omega⟩⟩, (HT1.out.2.and_then (H5.out.2.2.2.mono (fun _ _ c => c.elim))).and_then (HM6.out.1.mono (fun x _ c => by have c : x = g := c; rw [c]; exact hT.rg))⟩
            show ArrAt w6 na ns (List.replicate n .empty) (ents (List.replicate n (.empty : Sl))).length (tombs (List.replicate n (.empty : Sl)))
            rw [ents_new, tombs_new]
            exact hA6
          · refine op_c1 (fun _ _ => rfl) rfl rfl (newArray_any n HP.out.1.bd.2.1 _) ?_
            rintro e w5 ⟨na, ns, rfl, ha5, hs1, hs2, hm5⟩
            refine ⟨_, rfl, hK _ _ trivial fun _ => ?_⟩
            clear hK K
            simp only [Act.put, List.setIfInBounds_toArray, List.set_cons_zero, List.set_cons_succ]
            refine readyD (i := 6) (d := some 51) rfl (by kernel_rfl) rfl (by kernel_rfl) fun K hK => ?_
            refine op_yield (y_one rfl (by decide) rfl ((HT1.out.1.drew.b.mod hm5 (fun c => c)).cell 1) rfl) ?_
            refine hK _ _ trivial fun _ => ?_
            clear hK K
            simp only [Act.put, List.setIfInBounds_toArray, List.set_cons_zero, List.set_cons_succ]
            have H5 := Lib.hid (show ArrAt w5 na ns (List.replicate n .empty) 0 0 ∧ wr.heap.size ≤ na ∧ wr.heap.size ≤ ns ∧ Mod no wr w5 from ⟨ha5, hs1, hs2, (Mod.refl no wr).drew.and_then hm5⟩)
            clear ha5 hs1 hs2 hm5
            have HB5 := Lib.hid (HT1.out.1.b.mod H5.out.2.2.2 (fun c => c))
            refine takeD (i := 9) (d := some 54) (v := (.pointer (some ⟨g, 0, none⟩))) rfl (by kernel_rfl) (by kernel_rfl) (by kernel_rfl) rfl (fun _ _ _ h => h) (Or.inl ⟨by kernel_rfl, fun w9 hw => y_nil rfl rfl⟩) trivial ?_
            simp only [Act.put, List.setIfInBounds_toArray, List.set_cons_zero, List.set_cons_succ]
            refine takeD (i := 10) (d := some 55) (v := (.pointer (some ⟨g, 2, none⟩))) rfl (by kernel_rfl) (by kernel_rfl) (by kernel_rfl) rfl (fun _ _ _ h => h) (Or.inl ⟨by kernel_rfl, fun w9 hw => y_ft (by decide) rfl rfl⟩) trivial ?_
            simp only [Act.put, List.setIfInBounds_toArray, List.set_cons_zero, List.set_cons_succ]
            refine readyD (i := 11) (d := none) rfl (by kernel_rfl) rfl (by kernel_rfl) fun K hK => ?_
            refine op_storeP rfl rfl rfl (HB5.out.cell 2) (HB5.out.free 2) ?_
            refine hK _ _ trivial fun _ => ?_
            clear hK K
            simp only [Act.put, List.setIfInBounds_toArray, List.set_cons_zero, List.set_cons_succ]
            refine takeD (i := 12) (d := some 56) (v := (.pointer (some ⟨g, 0, none⟩))) rfl (by kernel_rfl) (by kernel_rfl) (by kernel_rfl) rfl (fun _ _ _ h => h) (Or.inl ⟨by kernel_rfl, fun w9 hw => y_nil rfl rfl⟩) trivial ?_
            simp only [Act.put, List.setIfInBounds_toArray, List.set_cons_zero, List.set_cons_succ]
            refine takeD (i := 13) (d := some 57) (v := (.pointer (some ⟨g, 1, none⟩))) rfl (by kernel_rfl) (by kernel_rfl) (by kernel_rfl) rfl (fun _ _ _ h => h) (Or.inl ⟨by kernel_rfl, fun w9 hw => y_ft (by decide) rfl rfl⟩) trivial ?_
            simp only [Act.put, List.setIfInBounds_toArray, List.set_cons_zero, List.set_cons_succ]
            refine readyD (i := 14) (d := none) rfl (by kernel_rfl) rfl (by kernel_rfl) fun K hK => ?_
            refine op_storeP rfl rfl rfl ((HB5.out.put 2 (.pointer (some ⟨ya, 0, none⟩))).cell 1) ((HB5.out.put 2 (.pointer (some ⟨ya, 0, none⟩))).free 1) ?_
            refine hK _ _ trivial fun _ => ?_
            clear hK K
            simp only [Act.put, List.setIfInBounds_toArray, List.set_cons_zero, List.set_cons_succ]
            refine takeD (i := 15) (d := some 58) (v := (.pointer (some ⟨g, 0, none⟩))) rfl (by kernel_rfl) (by kernel_rfl) (by kernel_rfl) rfl (fun _ _ _ h => h) (Or.inl ⟨by kernel_rfl, fun w9 hw => y_nil rfl rfl⟩) trivial ?_
            simp only [Act.put, List.setIfInBounds_toArray, List.set_cons_zero, List.set_cons_succ]
            refine takeD (i := 16) (d := some 59) (v := (.pointer (some ⟨g, 3, none⟩))) rfl (by kernel_rfl) (by kernel_rfl) (by kernel_rfl) rfl (fun _ _ _ h => h) (Or.inl ⟨by kernel_rfl, fun w9 hw => y_ft (by decide) rfl rfl⟩) trivial ?_
            simp only [Act.put, List.setIfInBounds_toArray, List.set_cons_zero, List.set_cons_succ]
            refine readyD (i := 17) (d := none) rfl (by kernel_rfl) rfl (by kernel_rfl) fun K hK => ?_
            refine op_storeI rfl rfl rfl (((HB5.out.put 2 (.pointer (some ⟨ya, 0, none⟩))).put 1 (.pointer (some ⟨na, 0, none⟩))).cell 3) (((HB5.out.put 2 (.pointer (some ⟨ya, 0, none⟩))).put 1 (.pointer (some ⟨na, 0, none⟩))).free 3) ?_
            refine hK _ _ trivial fun _ => ?_
            clear hK K
            simp only [Act.put, List.setIfInBounds_toArray, List.set_cons_zero, List.set_cons_succ]
            refine wpAnyH_done (by kernel_rfl) ?_ _
            obtain ⟨w6, hw6⟩ : ∃ w6, w6 = ((w5.setCell ⟨g, 2, none⟩ (.pointer (some ⟨ya, 0, none⟩))).setCell ⟨g, 1, none⟩ (.pointer (some ⟨na, 0, none⟩))).setCell ⟨g, 3, none⟩ (.int .i64 0) := ⟨_, rfl⟩
            have hm6 : Mod (one g) w5 w6 := by rw [hw6]; exact (((Mod.refl (one g) w5).set (p := ⟨g, 2, none⟩) (fun _ => (rfl : one g g)) _).set (p := ⟨g, 1, none⟩) (fun _ => (rfl : one g g)) _).set (p := ⟨g, 3, none⟩) (fun _ => (rfl : one g g)) _
            have hb6 : Blk w6 g 127 #[hashV, .pointer (some ⟨na, 0, none⟩), .pointer (some ⟨ya, 0, none⟩), .int .i64 ((0 : Nat) : Int)] := by rw [hw6]; exact ((HB5.out.put 2 (.pointer (some ⟨ya, 0, none⟩))).put 1 (.pointer (some ⟨na, 0, none⟩))).put 3 (.int .i64 0)
            rw [← hw6]
            have hs6 : w6.heap.size = w5.heap.size := by rw [hw6]; simp [World.setCell]
            have HM6 := Lib.hid (And.intro hm6 (And.intro hb6 hs6))
            clear hw6 hm6 hb6 hs6
            go_wp2_with fail
            go_end0
            have hT := HT1.out.1
            have hgl := hT.b.lt
            have hyl := hT.y.a.lt
            have hsl := hT.y.s.lt
            have e1 : ¬ one g ya := fun c => hT.b.ne hT.y.a (by decide) c.symm
            have e2 : ¬ one g ys := fun c => hT.b.ne hT.y.s (by decide) c.symm
            have e3 : ¬ one g na := fun c => by have c : na = g := c; have := H5.out.2.1; omega
            have e4 : ¬ one g ns := fun c => by have c : ns = g := c; have := H5.out.2.2.1; omega
            have hA6 := H5.out.1.mod HM6.out.1 e3 e4
            have hY6 := (hT.y.mod H5.out.2.2.2 (fun c => c) (fun c => c)).mod HM6.out.1 e1 e2
            obtain ⟨hwf, hL⟩ := HW.out.1.grown HTO.out HP.out.1 (by rw [← HN.out.1]; exact HP.out.2) (by rw [← HLL.out]; have := HX.out; omega)
            have x1 := H5.out.1.a.lt
            have x2 := H5.out.1.s.lt
            have x3 := HM6.out.2.2
            have x4 := HSZ.out
            have x5 := H5.out.2.1
            have x6 := H5.out.2.2.1
            refine ⟨rfl, ⟨⟨List.replicate n .empty, some t.y, 0⟩, hwf, hL, na, ns, some ⟨ya, 0, none⟩, HM6.out.2.1, ?_, ⟨ya, ys, rfl, hY6, .inl hT.ry, .inl hT.rs, fun c => by omega, fun c => by omega⟩, .inl hT.rg, .inr ⟨by omega, by omega⟩, .inr ⟨by omega, by omega⟩⟩, (HT1.out.2.and_then (H5.out.2.2.2.mono (fun _ _ c => c.elim))).and_then (HM6.out.1.mono (fun x _ c => by have c : x = g := c; rw [c]; exact hT.rg))⟩
            show ArrAt w6 na ns (List.replicate n .empty) (ents (List.replicate n (.empty : Sl))).length (tombs (List.replicate n (.empty : Sl)))
            rw [ents_new, tombs_new]
            exact hA6
end Go.Proofs.Ytknbehjhaaidoaa.TB

