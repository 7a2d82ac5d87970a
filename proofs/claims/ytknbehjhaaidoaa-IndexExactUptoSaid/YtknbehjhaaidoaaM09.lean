/- IndexExact: the texts TbJ TbK of this seat, one behind the other. -/
import Derived.Test.YtknbehjhaaidoaaM08
import Derived.BigQuiet
import Derived.LaidEqlPtr
/- A table's grow. -/
namespace Go.Proofs.Ytknbehjhaaidoaa.TB
open Go.RowKit Mem HD
set_option linter.unusedVariables false
set_option linter.unusedSimpArgs false

theorem op_storeP {a : Act} {o : Oper} {w : World} {K : Act → World → Prop} {Q : Exit → Act → World → Prop} {x y : Operand} {b i : Nat} {q : Option Addr} {u : Value} (ho : o.op = .store 124 x y) (hx : a.eval x = .pointer (some ⟨b, i, none⟩)) (hy : a.eval y = .pointer q)
    (hc : w.cell? ⟨b, i, none⟩ = some u) (hf : w.frozen? ⟨b, i, none⟩ = false) (hK : K (a.put o.dst undef) (w.setCell ⟨b, i, none⟩ (.pointer q))) : Oper.wp Try.prog o a w K Q := by
  unfold Oper.wp execOp
  simp only [ho, hx, hy]
  go_simp
  exact hK
theorem op_storeI {a : Act} {o : Oper} {w : World} {K : Act → World → Prop} {Q : Exit → Act → World → Prop} {x y : Operand} {b i : Nat} {z : Int} {u : Value} (ho : o.op = .store 3 x y) (hx : a.eval x = .pointer (some ⟨b, i, none⟩)) (hy : a.eval y = .int .i64 z)
    (hc : w.cell? ⟨b, i, none⟩ = some u) (hf : w.frozen? ⟨b, i, none⟩ = false) (hK : K (a.put o.dst undef) (w.setCell ⟨b, i, none⟩ (.int .i64 z))) : Oper.wp Try.prog o a w K Q := by
  unfold Oper.wp execOp
  simp only [ho, hx, hy]
  go_simp
  exact hK
/-- What a table's blocks may be behind a call. -/
def ext (R : Nat → Prop) (w w' : World) (k : Nat) : Prop := R k ∨ (w.heap.size ≤ k ∧ k < w'.heap.size)
theorem ext_le {R : Nat → Prop} {w w' : World} : ∀ k, R k → ext R w w' k := fun _ h => .inl h
theorem pow_two {n : Nat} (h : Pow n) (hn : 2 * n ≤ 1099511627776) : Pow (n * 2) := by
  obtain ⟨e, h1, h2, rfl⟩ := h
  have h3 : 2 ^ (e + 1) ≤ 2 ^ 40 := by rw [Nat.pow_succ]; omega
  have h4 := (Nat.pow_le_pow_iff_right (a := 2) (by decide)).1 h3
  exact ⟨e + 1, by omega, h4, by rw [Nat.pow_succ]⟩
def GI (w : World) (n0 : Nat) (v2 : Value) (wr : World) : Prop := ∃ n : Nat, Pow n ∧ n0 ≤ n ∧ v2 = .int .i64 (n : Int) ∧ wr = w
set_option maxRecDepth 100000 in
set_option maxHeartbeats 4000000 in
theorem grow_any {w : World} {g ya ys : Nat} {R : Nat → Prop} {t : Tab Key Ent} {po : Option Addr} (ht : TabM w g R t ya ys po) (hw : WF hash 0 t) (hw1 : t.o ≠ none → WF hash 1 t) (hb : t.L.length ≤ 1073741824) :
    Calls Try.prog 90 #[.pointer (some ⟨g, 0, none⟩)] w fun e w' => e = .returned (.tuple #[]) ∧ (∃ t', WF hash 1 t' ∧ t'.L = t.L ∧ TabAt w' g (ext R w w') t') ∧ Mod R w w' := by
  have c1 := ht.b.cell 1
  have c2 := ht.b.cell 2
  have a0 := ht.y.a.cell 0
  have a1 := ht.y.a.cell 1
  have a2 := ht.y.a.cell 2
  have hyb := hw.py.bd
  have hle := ents_le t.y
  obtain ⟨n0, hn0⟩ : ∃ n0, n0 = t.y.length := ⟨_, rfl⟩
  obtain ⟨u, hu⟩ : ∃ u, u = (ents t.y).length := ⟨_, rfl⟩
  obtain ⟨tt, htt⟩ : ∃ tt, tt = tombs t.y := ⟨_, rfl⟩
  rw [← hn0] at a0 hyb hle
  rw [← hu] at a1 hle
  rw [← htt] at a2 hle
  have HB := Lib.hid (And.intro hyb hle)
  have HT := Lib.hid ht
  have HW := Lib.hid (And.intro hw (And.intro hw1 hb))
  have HN := Lib.hid (And.intro hn0 (And.intro hu htt))
  cases hto : t.o with
  | some l =>
    have hpo := ht.o
    rw [hto] at hpo
    obtain ⟨oa, os, rfl, _⟩ := hpo
    have HTO := Lib.hid hto
    clear ht hw hw1 hb hyb hle hto hn0 hu htt
    go_enter Try.func90, Try.ntmps90
    go_wp2_with fail
    go_quiet (fail)
    go_wp2_with fail
    refine bodyPost_ret (v := .tuple #[]) (results_none rfl _ _ _) rfl ⟨rfl, ⟨t, HW.out.2.1 (by rw [HTO.out]; simp), rfl, ya, ys, _, (HT.out.mod ((Mod.refl no w).drewN nq) (fun _ _ c => c)).mono ext_le⟩, (Mod.refl R w).drewN nq⟩
  | none =>
    have hpo := ht.o
    rw [hto] at hpo
    have hpo : po = none := hpo
    subst hpo
    have HTO := Lib.hid hto
    have wr1 : wrap64 ((u : Int) + (tt : Int)) = (u : Int) + (tt : Int) := IntWalk.wrap64_in _ (by omega)
    have wr2 : wrap64 (4 * ((u : Int) + (tt : Int))) = 4 * ((u : Int) + (tt : Int)) := IntWalk.wrap64_in _ (by omega)
    have wr3 : wrap64 (3 * (n0 : Int)) = 3 * (n0 : Int) := IntWalk.wrap64_in _ (by omega)
    by_cases hc : 4 * (u + tt) ≤ 3 * n0
    · have hd : decide (4 * ((u : Int) + (tt : Int)) ≤ 3 * (n0 : Int)) = true := decide_eq_true (by clear wr1 wr2 wr3; omega)
      have hd2 : 4 * ((u : Int) + (tt : Int)) ≤ 3 * (n0 : Int) := by clear wr1 wr2 wr3; omega
      have HC := Lib.hid hc
      clear ht hw hw1 hb hyb hle hto hn0 hu htt hc
      go_enter Try.func90, Try.ntmps90
      go_wp2_with fail
      go_quiet (fail)
      go_wp2_with fail
      refine bodyPost_ret (v := .tuple #[]) (results_none rfl _ _ _) rfl ⟨rfl, ⟨t, HW.out.1.still HTO.out (by rw [← HN.out.1, ← HN.out.2.1, ← HN.out.2.2]; exact HC.out), rfl, ya, ys, _, (HT.out.mod ((Mod.refl no w).drewN nq) (fun _ _ c => c)).mono ext_le⟩, (Mod.refl R w).drewN nq⟩
    · have hd : decide (4 * ((u : Int) + (tt : Int)) ≤ 3 * (n0 : Int)) = false := decide_eq_false (by clear wr1 wr2 wr3; omega)
      have hd2 : ¬ 4 * ((u : Int) + (tt : Int)) ≤ 3 * (n0 : Int) := by clear wr1 wr2 wr3; omega
      clear ht hw hw1 hb hyb hle hto hn0 hu htt hc
      go_enter Try.func90, Try.ntmps90
      go_wp2_with fail
      go_quiet (fail)
      clear hd hd2 wr1 wr2 wr3
      have ht1 := HT.out.mod ((Mod.refl no w).drewN nq) (fun _ _ c => c)
      have HT1 := Lib.hid (And.intro ht1 ((Mod.refl R w).drewN nq))
      obtain ⟨w1, hw1⟩ : ∃ w1, w1 = w.drewN nq := ⟨_, rfl⟩
      rw [← hw1] at HT1 ⊢
      have hsz : w1.heap.size = w.heap.size := by rw [hw1]; rfl
      have HSZ := Lib.hid hsz
      clear ht1 hw1 hsz c1 c2 a0 a1 a2
      go_wp2_with fail
      go_loopw [2] (GI w1 n0) (fun v _ => 4294967296 - (intOf v).toNat)
      case atStart => exact ⟨n0, by rw [HN.out.1]; exact HW.out.1.py, Nat.le_refl _, rfl, rfl⟩
      case round =>
        obtain ⟨n, hp, hn, rfl, rfl⟩ := hrel
        have hlen := len_any ⟨ya, ys, _, HT1.out.1⟩ HW.out.1
        obtain ⟨LL, hLL⟩ : ∃ LL, LL = t.L.length := ⟨_, rfl⟩
        rw [← hLL] at hlen
        have HLN := Lib.hid hlen
        have hbb : LL ≤ 1073741824 := by rw [hLL]; exact HW.out.2.2
        have HLL := Lib.hid hLL
        have hpb := hp.bd
        have HP := Lib.hid (And.intro hp hn)
        by_cases hlt : n < 2 * LL + 2
        · have g1 : (n : Int) < 2 * (LL : Int) + 2 := by omega
          have w1' : wrap64 (2 * (LL : Int)) = 2 * (LL : Int) := IntWalk.wrap64_in _ (by omega)
          have w2' : wrap64 (2 * (LL : Int) + 2) = 2 * (LL : Int) + 2 := IntWalk.wrap64_in _ (by omega)
          have w3' : wrap64 ((n : Int) * 2) = (n : Int) * 2 := IntWalk.wrap64_in _ (by omega)
          have HX := Lib.hid (And.intro hlt hbb)
          clear hlen hLL hbb hpb hp hn hlt
          go_wp2_with (first | (go_at_call 91; refine HLN.out.mono ?_; rintro e w' ⟨rfl, rfl⟩))
          go_roundw
          case rel => exact ⟨n * 2, pow_two HP.out.1 (by have := HX.out; omega), by have := HP.out.2; omega, by first | (rw [Int.natCast_mul]; rfl) | (rw [w3', Int.natCast_mul]; rfl), rfl⟩
          case measure =>
            have h1 := HX.out
            have h2 := HP.out.1.bd
            try rw [w3']
            clear w1' w2' w3'
            show 4294967296 - ((n : Int) * 2).toNat < 4294967296 - ((n : Int)).toNat
            omega
        · have g1 : ¬ (n : Int) < 2 * (LL : Int) + 2 := by omega
          have w1' : wrap64 (2 * (LL : Int)) = 2 * (LL : Int) := IntWalk.wrap64_in _ (by omega)
          have w2' : wrap64 (2 * (LL : Int) + 2) = 2 * (LL : Int) + 2 := IntWalk.wrap64_in _ (by omega)
          have HX := Lib.hid (And.intro hlt hbb)
          clear hlen hLL hbb hpb hp hn hlt
          go_upto_region 4 with (first | (go_at_call 91; refine HLN.out.mono ?_; rintro e wr ⟨rfl, rfl⟩))
          refine wp_region_held_drew (S := fun _ => True) (by kernel_rfl) trivial (fun hHeld => ?_)
          refine takeD (i := 0) (d := some 45) (v := (.pointer (some ⟨g, 0, none⟩))) rfl (by kernel_rfl) (by kernel_rfl) (by kernel_rfl) rfl (fun _ _ _ h => h) (Or.inl ⟨by kernel_rfl, fun w9 hw => y_move rfl rfl⟩) hHeld ?_
          simp only [Act.put, List.setIfInBounds_toArray, List.set_cons_zero, List.set_cons_succ]
          refine takeD (i := 1) (d := some 46) (v := (.pointer (some ⟨g, 0, none⟩))) rfl (by kernel_rfl) (by kernel_rfl) (by kernel_rfl) rfl (fun _ _ _ h => h) (Or.inl ⟨by kernel_rfl, fun w9 hw => y_move rfl rfl⟩) hHeld ?_
          simp only [Act.put, List.setIfInBounds_toArray, List.set_cons_zero, List.set_cons_succ]
          refine takeD (i := 2) (d := some 47) (v := (.pointer (some ⟨g, 0, none⟩))) rfl (by kernel_rfl) (by kernel_rfl) (by kernel_rfl) rfl (fun _ _ _ h => h) (Or.inl ⟨by kernel_rfl, fun w9 hw => y_move rfl rfl⟩) hHeld ?_
          simp only [Act.put, List.setIfInBounds_toArray, List.set_cons_zero, List.set_cons_succ]
          refine takeD (i := 3) (d := some 48) (v := (.pointer (some ⟨g, 0, none⟩))) rfl (by kernel_rfl) (by kernel_rfl) (by kernel_rfl) rfl (fun _ _ _ h => h) (Or.inl ⟨by kernel_rfl, fun w9 hw => y_move rfl rfl⟩) hHeld ?_
          simp only [Act.put, List.setIfInBounds_toArray, List.set_cons_zero, List.set_cons_succ]
          refine takeD (i := 4) (d := some 49) (v := (.pointer (some ⟨g, 0, none⟩))) rfl (by kernel_rfl) (by kernel_rfl) (by kernel_rfl) rfl (fun _ _ _ h => h) (Or.inl ⟨by kernel_rfl, fun w9 hw => y_nil rfl rfl⟩) hHeld ?_
          simp only [Act.put, List.setIfInBounds_toArray, List.set_cons_zero, List.set_cons_succ]
          refine takeD (i := 5) (d := some 50) (v := (.pointer (some ⟨g, 1, none⟩))) rfl (by kernel_rfl) (by kernel_rfl) (by kernel_rfl) rfl (fun _ _ _ h => h) (Or.inl ⟨by kernel_rfl, fun w9 hw => y_ft (by decide) rfl rfl⟩) hHeld ?_
          simp only [Act.put, List.setIfInBounds_toArray, List.set_cons_zero, List.set_cons_succ]
          refine takeD (i := 7) (d := some 52) (v := (.int .i64 (n : Int))) rfl (by kernel_rfl) (by kernel_rfl) (by kernel_rfl) rfl (fun _ _ _ h => h) (Or.inl ⟨by kernel_rfl, fun w9 hw => y_move rfl rfl⟩) hHeld ?_
          simp only [Act.put, List.setIfInBounds_toArray, List.set_cons_zero, List.set_cons_succ]
          refine wpAnyH_ready (rs := [6, 8]) (by kernel_rfl) (by simp) (aOne (i := 6) (d := some 51) rfl rfl (by kernel_rfl) (fun K hK => ?_) (aOne (i := 8) (d := some 53) rfl rfl (by kernel_rfl) (fun K hK => ?_) AllReadyH.nil))
          · refine op_yield (y_one rfl (by decide) rfl (HT1.out.1.drew.b.cell 1) rfl) ?_
            refine hK _ _ trivial fun _ => ?_
            clear hK K
            simp only [Act.put, List.setIfInBounds_toArray, List.set_cons_zero, List.set_cons_succ]
            refine readyD (i := 8) (d := some 53) rfl (by kernel_rfl) rfl (by kernel_rfl) fun K hK => ?_
            refine op_c1 (fun _ _ => rfl) rfl rfl (newArray_any n HP.out.1.bd.2.1 _) ?_
            rintro e w5 ⟨na, ns, rfl, ha5, hs1, hs2, hm5⟩
            refine ⟨_, rfl, hK _ _ trivial fun _ => ?_⟩
            clear hK K
            simp only [Act.put, List.setIfInBounds_toArray, List.set_cons_zero, List.set_cons_succ]
            have H5 := Lib.hid (show ArrAt w5 na ns (List.replicate n .empty) 0 0 ∧ wr.heap.size ≤ na ∧ wr.heap.size ≤ ns ∧ Mod no wr w5 from ⟨ha5, hs1, hs2, (Mod.refl no wr).drew.and_then hm5⟩)
            clear ha5 hs1 hs2 hm5
            have HB5 := Lib.hid (HT1.out.1.b.mod H5.out.2.2.2 (fun c => c))
            refine takeD (i := 9) (d := some 54) (v := (.pointer (some ⟨g, 0, none⟩))) rfl (by kernel_rfl) (by kernel_rfl) (by kernel_rfl) rfl (fun _ _ _ h => h) (Or.inl ⟨by kernel_rfl, fun w9 hw => y_nil rfl rfl⟩) trivial ?_
            simp only [Act.put, List.setIfInBounds_toArray, List.set_cons_zero, List.set_cons_succ]
            refine takeD (i := 10) (d := some 55) (v := (.pointer (some ⟨g, 2, none⟩))) rfl (by kernel_rfl) (by kernel_rfl) (by kernel_rfl) rfl (fun _ _ _ h => h) (Or.inl ⟨by kernel_rfl, fun w9 hw => y_ft (by decide) rfl rfl⟩) trivial ?_
            simp only [Act.put, List.setIfInBounds_toArray, List.set_cons_zero, List.set_cons_succ]
            refine readyD (i := 11) (d := none) rfl (by kernel_rfl) rfl (by kernel_rfl) fun K hK => ?_
            refine op_storeP rfl rfl rfl (HB5.out.cell 2) (HB5.out.free 2) ?_
            refine hK _ _ trivial fun _ => ?_
            clear hK K
            simp only [Act.put, List.setIfInBounds_toArray, List.set_cons_zero, List.set_cons_succ]
            refine takeD (i := 12) (d := some 56) (v := (.pointer (some ⟨g, 0, none⟩))) rfl (by kernel_rfl) (by kernel_rfl) (by kernel_rfl) rfl (fun _ _ _ h => h) (Or.inl ⟨by kernel_rfl, fun w9 hw => y_nil rfl rfl⟩) trivial ?_
            simp only [Act.put, List.setIfInBounds_toArray, List.set_cons_zero, List.set_cons_succ]
            refine takeD (i := 13) (d := some 57) (v := (.pointer (some ⟨g, 1, none⟩))) rfl (by kernel_rfl) (by kernel_rfl) (by kernel_rfl) rfl (fun _ _ _ h => h) (Or.inl ⟨by kernel_rfl, fun w9 hw => y_ft (by decide) rfl rfl⟩) trivial ?_
            simp only [Act.put, List.setIfInBounds_toArray, List.set_cons_zero, List.set_cons_succ]
            refine readyD (i := 14) (d := none) rfl (by kernel_rfl) rfl (by kernel_rfl) fun K hK => ?_
            refine op_storeP rfl rfl rfl ((HB5.out.put 2 (.pointer (some ⟨ya, 0, none⟩))).cell 1) ((HB5.out.put 2 (.pointer (some ⟨ya, 0, none⟩))).free 1) ?_
            refine hK _ _ trivial fun _ => ?_
            clear hK K
            simp only [Act.put, List.setIfInBounds_toArray, List.set_cons_zero, List.set_cons_succ]
            refine takeD (i := 15) (d := some 58) (v := (.pointer (some ⟨g, 0, none⟩))) rfl (by kernel_rfl) (by kernel_rfl) (by kernel_rfl) rfl (fun _ _ _ h => h) (Or.inl ⟨by kernel_rfl, fun w9 hw => y_nil rfl rfl⟩) trivial ?_
            simp only [Act.put, List.setIfInBounds_toArray, List.set_cons_zero, List.set_cons_succ]
            refine takeD (i := 16) (d := some 59) (v := (.pointer (some ⟨g, 3, none⟩))) rfl (by kernel_rfl) (by kernel_rfl) (by kernel_rfl) rfl (fun _ _ _ h => h) (Or.inl ⟨by kernel_rfl, fun w9 hw => y_ft (by decide) rfl rfl⟩) trivial ?_
            simp only [Act.put, List.setIfInBounds_toArray, List.set_cons_zero, List.set_cons_succ]
            refine readyD (i := 17) (d := none) rfl (by kernel_rfl) rfl (by kernel_rfl) fun K hK => ?_
            refine op_storeI rfl rfl rfl (((HB5.out.put 2 (.pointer (some ⟨ya, 0, none⟩))).put 1 (.pointer (some ⟨na, 0, none⟩))).cell 3) (((HB5.out.put 2 (.pointer (some ⟨ya, 0, none⟩))).put 1 (.pointer (some ⟨na, 0, none⟩))).free 3) ?_
            refine hK _ _ trivial fun _ => ?_
            clear hK K
            simp only [Act.put, List.setIfInBounds_toArray, List.set_cons_zero, List.set_cons_succ]
            refine wpAnyH_done (by kernel_rfl) ?_ _
            obtain ⟨w6, hw6⟩ : ∃ w6, w6 = ((w5.setCell ⟨g, 2, none⟩ (.pointer (some ⟨ya, 0, none⟩))).setCell ⟨g, 1, none⟩ (.pointer (some ⟨na, 0, none⟩))).setCell ⟨g, 3, none⟩ (.int .i64 0) := ⟨_, rfl⟩
            have hm6 : Mod (one g) w5 w6 := by rw [hw6]; exact (((Mod.refl (one g) w5).set (p := ⟨g, 2, none⟩) (fun _ => (rfl : one g g)) _).set (p := ⟨g, 1, none⟩) (fun _ => (rfl : one g g)) _).set (p := ⟨g, 3, none⟩) (fun _ => (rfl : one g g)) _
            have hb6 : Blk w6 g 127 #[hashV, .pointer (some ⟨na, 0, none⟩), .pointer (some ⟨ya, 0, none⟩), .int .i64 ((0 : Nat) : Int)] := by rw [hw6]; exact ((HB5.out.put 2 (.pointer (some ⟨ya, 0, none⟩))).put 1 (.pointer (some ⟨na, 0, none⟩))).put 3 (.int .i64 0)
            rw [← hw6]
            have hs6 : w6.heap.size = w5.heap.size := by rw [hw6]; simp [World.setCell]
            have HM6 := Lib.hid (And.intro hm6 (And.intro hb6 hs6))
            clear hw6 hm6 hb6 hs6
            go_wp2_with fail
            go_end0
            have hT := HT1.out.1
            have hgl := hT.b.lt
            have hyl := hT.y.a.lt
            have hsl := hT.y.s.lt
            have e1 : ¬ one g ya := fun c => hT.b.ne hT.y.a (by decide) c.symm
            have e2 : ¬ one g ys := fun c => hT.b.ne hT.y.s (by decide) c.symm
            have e3 : ¬ one g na := fun c => by have c : na = g := c; have := H5.out.2.1; omega
            have e4 : ¬ one g ns := fun c => by have c : ns = g := c; have := H5.out.2.2.1; omega
            have hA6 := H5.out.1.mod HM6.out.1 e3 e4
            have hY6 := (hT.y.mod H5.out.2.2.2 (fun c => c) (fun c => c)).mod HM6.out.1 e1 e2
            obtain ⟨hwf, hL⟩ := HW.out.1.grown HTO.out HP.out.1 (by rw [← HN.out.1]; exact HP.out.2) (by rw [← HLL.out]; have := HX.out; omega)
            have x1 := H5.out.1.a.lt
            have x2 := H5.out.1.s.lt
            have x3 := HM6.out.2.2
            have x4 := HSZ.out
            have x5 := H5.out.2.1
            have x6 := H5.out.2.2.1
            refine ⟨rfl, ⟨⟨List.replicate n .empty, some t.y, 0⟩, hwf, hL, na, ns, some ⟨ya, 0, none⟩, HM6.out.2.1, ?_, ⟨ya, ys, rfl, hY6, .inl hT.ry, .inl hT.rs, fun c => by omega, fun c => by omega⟩, .inl hT.rg, .inr ⟨by omega, by omega⟩, .inr ⟨by omega, by omega⟩⟩, (HT1.out.2.and_then (H5.out.2.2.2.mono (fun _ _ c => c.elim))).and_then (HM6.out.1.mono (fun x _ c => by have c : x = g := c; rw [c]; exact hT.rg))⟩
            show ArrAt w6 na ns (List.replicate n .empty) (ents (List.replicate n (.empty : Sl))).length (tombs (List.replicate n (.empty : Sl)))
            rw [ents_new, tombs_new]
            exact hA6
          · refine op_c1 (fun _ _ => rfl) rfl rfl (newArray_any n HP.out.1.bd.2.1 _) ?_
            rintro e w5 ⟨na, ns, rfl, ha5, hs1, hs2, hm5⟩
            refine ⟨_, rfl, hK _ _ trivial fun _ => ?_⟩
            clear hK K
            simp only [Act.put, List.setIfInBounds_toArray, List.set_cons_zero, List.set_cons_succ]
            refine readyD (i := 6) (d := some 51) rfl (by kernel_rfl) rfl (by kernel_rfl) fun K hK => ?_
            refine op_yield (y_one rfl (by decide) rfl ((HT1.out.1.drew.b.mod hm5 (fun c => c)).cell 1) rfl) ?_
            refine hK _ _ trivial fun _ => ?_
            clear hK K
            simp only [Act.put, List.setIfInBounds_toArray, List.set_cons_zero, List.set_cons_succ]
            have H5 := Lib.hid (show ArrAt w5 na ns (List.replicate n .empty) 0 0 ∧ wr.heap.size ≤ na ∧ wr.heap.size ≤ ns ∧ Mod no wr w5 from ⟨ha5, hs1, hs2, (Mod.refl no wr).drew.and_then hm5⟩)
            clear ha5 hs1 hs2 hm5
            have HB5 := Lib.hid (HT1.out.1.b.mod H5.out.2.2.2 (fun c => c))
            refine takeD (i := 9) (d := some 54) (v := (.pointer (some ⟨g, 0, none⟩))) rfl (by kernel_rfl) (by kernel_rfl) (by kernel_rfl) rfl (fun _ _ _ h => h) (Or.inl ⟨by kernel_rfl, fun w9 hw => y_nil rfl rfl⟩) trivial ?_
            simp only [Act.put, List.setIfInBounds_toArray, List.set_cons_zero, List.set_cons_succ]
            refine takeD (i := 10) (d := some 55) (v := (.pointer (some ⟨g, 2, none⟩))) rfl (by kernel_rfl) (by kernel_rfl) (by kernel_rfl) rfl (fun _ _ _ h => h) (Or.inl ⟨by kernel_rfl, fun w9 hw => y_ft (by decide) rfl rfl⟩) trivial ?_
            simp only [Act.put, List.setIfInBounds_toArray, List.set_cons_zero, List.set_cons_succ]
            refine readyD (i := 11) (d := none) rfl (by kernel_rfl) rfl (by kernel_rfl) fun K hK => ?_
            refine op_storeP rfl rfl rfl (HB5.out.cell 2) (HB5.out.free 2) ?_
            refine hK _ _ trivial fun _ => ?_
            clear hK K
            simp only [Act.put, List.setIfInBounds_toArray, List.set_cons_zero, List.set_cons_succ]
            refine takeD (i := 12) (d := some 56) (v := (.pointer (some ⟨g, 0, none⟩))) rfl (by kernel_rfl) (by kernel_rfl) (by kernel_rfl) rfl (fun _ _ _ h => h) (Or.inl ⟨by kernel_rfl, fun w9 hw => y_nil rfl rfl⟩) trivial ?_
            simp only [Act.put, List.setIfInBounds_toArray, List.set_cons_zero, List.set_cons_succ]
            refine takeD (i := 13) (d := some 57) (v := (.pointer (some ⟨g, 1, none⟩))) rfl (by kernel_rfl) (by kernel_rfl) (by kernel_rfl) rfl (fun _ _ _ h => h) (Or.inl ⟨by kernel_rfl, fun w9 hw => y_ft (by decide) rfl rfl⟩) trivial ?_
            simp only [Act.put, List.setIfInBounds_toArray, List.set_cons_zero, List.set_cons_succ]
            refine readyD (i := 14) (d := none) rfl (by kernel_rfl) rfl (by kernel_rfl) fun K hK => ?_
            refine op_storeP rfl rfl rfl ((HB5.out.put 2 (.pointer (some ⟨ya, 0, none⟩))).cell 1) ((HB5.out.put 2 (.pointer (some ⟨ya, 0, none⟩))).free 1) ?_
            refine hK _ _ trivial fun _ => ?_
            clear hK K
            simp only [Act.put, List.setIfInBounds_toArray, List.set_cons_zero, List.set_cons_succ]
            refine takeD (i := 15) (d := some 58) (v := (.pointer (some ⟨g, 0, none⟩))) rfl (by kernel_rfl) (by kernel_rfl) (by kernel_rfl) rfl (fun _ _ _ h => h) (Or.inl ⟨by kernel_rfl, fun w9 hw => y_nil rfl rfl⟩) trivial ?_
            simp only [Act.put, List.setIfInBounds_toArray, List.set_cons_zero, List.set_cons_succ]
            refine takeD (i := 16) (d := some 59) (v := (.pointer (some ⟨g, 3, none⟩))) rfl (by kernel_rfl) (by kernel_rfl) (by kernel_rfl) rfl (fun _ _ _ h => h) (Or.inl ⟨by kernel_rfl, fun w9 hw => y_ft (by decide) rfl rfl⟩) trivial ?_
            simp only [Act.put, List.setIfInBounds_toArray, List.set_cons_zero, List.set_cons_succ]
            refine readyD (i := 17) (d := none) rfl (by kernel_rfl) rfl (by kernel_rfl) fun K hK => ?_
            refine op_storeI rfl rfl rfl (((HB5.out.put 2 (.pointer (some ⟨ya, 0, none⟩))).put 1 (.pointer (some ⟨na, 0, none⟩))).cell 3) (((HB5.out.put 2 (.pointer (some ⟨ya, 0, none⟩))).put 1 (.pointer (some ⟨na, 0, none⟩))).free 3) ?_
            refine hK _ _ trivial fun _ => ?_
            clear hK K
            simp only [Act.put, List.setIfInBounds_toArray, List.set_cons_zero, List.set_cons_succ]
            refine wpAnyH_done (by kernel_rfl) ?_ _
            obtain ⟨w6, hw6⟩ : ∃ w6, w6 = ((w5.setCell ⟨g, 2, none⟩ (.pointer (some ⟨ya, 0, none⟩))).setCell ⟨g, 1, none⟩ (.pointer (some ⟨na, 0, none⟩))).setCell ⟨g, 3, none⟩ (.int .i64 0) := ⟨_, rfl⟩
            have hm6 : Mod (one g) w5 w6 := by rw [hw6]; exact (((Mod.refl (one g) w5).set (p := ⟨g, 2, none⟩) (fun _ => (rfl : one g g)) _).set (p := ⟨g, 1, none⟩) (fun _ => (rfl : one g g)) _).set (p := ⟨g, 3, none⟩) (fun _ => (rfl : one g g)) _
            have hb6 : Blk w6 g 127 #[hashV, .pointer (some ⟨na, 0, none⟩), .pointer (some ⟨ya, 0, none⟩), .int .i64 ((0 : Nat) : Int)] := by rw [hw6]; exact ((HB5.out.put 2 (.pointer (some ⟨ya, 0, none⟩))).put 1 (.pointer (some ⟨na, 0, none⟩))).put 3 (.int .i64 0)
            rw [← hw6]
            have hs6 : w6.heap.size = w5.heap.size := by rw [hw6]; simp [World.setCell]
            have HM6 := Lib.hid (And.intro hm6 (And.intro hb6 hs6))
            clear hw6 hm6 hb6 hs6
            go_wp2_with fail
            go_end0
            have hT := HT1.out.1
            have hgl := hT.b.lt
            have hyl := hT.y.a.lt
            have hsl := hT.y.s.lt
            have e1 : ¬ one g ya := fun c => hT.b.ne hT.y.a (by decide) c.symm
            have e2 : ¬ one g ys := fun c => hT.b.ne hT.y.s (by decide) c.symm
            have e3 : ¬ one g na := fun c => by have c : na = g := c; have := H5.out.2.1; omega
            have e4 : ¬ one g ns := fun c => by have c : ns = g := c; have := H5.out.2.2.1; omega
            have hA6 := H5.out.1.mod HM6.out.1 e3 e4
            have hY6 := (hT.y.mod H5.out.2.2.2 (fun c => c) (fun c => c)).mod HM6.out.1 e1 e2
            obtain ⟨hwf, hL⟩ := HW.out.1.grown HTO.out HP.out.1 (by rw [← HN.out.1]; exact HP.out.2) (by rw [← HLL.out]; have := HX.out; omega)
            have x1 := H5.out.1.a.lt
            have x2 := H5.out.1.s.lt
            have x3 := HM6.out.2.2
            have x4 := HSZ.out
            have x5 := H5.out.2.1
            have x6 := H5.out.2.2.1
            refine ⟨rfl, ⟨⟨List.replicate n .empty, some t.y, 0⟩, hwf, hL, na, ns, some ⟨ya, 0, none⟩, HM6.out.2.1, ?_, ⟨ya, ys, rfl, hY6, .inl hT.ry, .inl hT.rs, fun c => by omega, fun c => by omega⟩, .inl hT.rg, .inr ⟨by omega, by omega⟩, .inr ⟨by omega, by omega⟩⟩, (HT1.out.2.and_then (H5.out.2.2.2.mono (fun _ _ c => c.elim))).and_then (HM6.out.1.mono (fun x _ c => by have c : x = g := c; rw [c]; exact hT.rg))⟩
            show ArrAt w6 na ns (List.replicate n .empty) (ents (List.replicate n (.empty : Sl))).length (tombs (List.replicate n (.empty : Sl)))
            rw [ents_new, tombs_new]
            exact hA6
end Go.Proofs.Ytknbehjhaaidoaa.TB

/- A table's Put. -/
namespace Go.Proofs.Ytknbehjhaaidoaa.TB
open Go.RowKit Mem HD
set_option linter.unusedVariables false
set_option linter.unusedSimpArgs false

theorem take_mid {A H E : List Value} {a h : Nat} (ha : A.length = a) (hh : H.length = h) : (A ++ (H ++ E)).take (a + h) = A ++ H := by
  subst ha hh
  rw [← List.append_assoc, ← List.length_append, List.take_left]
theorem arr_info : ∃ j, Try.prog.info? 136 = some j ∧ j.size ≠ 0 := by
  have h : (Try.prog.info? 136).map (·.size) = some 3 := by kernel_rfl
  cases hi : Try.prog.info? 136 with
  | none => rw [hi] at h; cases h
  | some i0 => rw [hi] at h; injection h with h; exact ⟨i0, rfl, by have h : i0.size = 3 := h; rw [h]; decide⟩
/-- A slot's value is stored. -/
theorem ArrAt.putV {w : World} {ga gs u t n : Nat} {l : List Sl} {k : Key} {v0 : Ent} (h : ArrAt w ga gs l u t) (hn : l[n]? = some (.full k v0)) (v : Ent) : Blk (w.setCells gs (n * 37 + 33) v.L) gs 133 (rowL (l.set n (.full k v))).flatten.toArray := by
  have hnl := (List.getElem?_eq_some_iff.1 hn).1
  have hl : (rowL l).length = l.length := by unfold rowL; rw [List.length_map]
  have hz := flat_len _ (rowL_len l)
  have h1 := blk_sets gs v.L (n * 37 + 33) (rowL l).flatten w h.s (by rw [hz, hl, Ent.len]; omega)
  have e0 : (rowL l).set n (slotL (.full k v0)) = rowL l := by
    have h2 := rowL_get hn
    have h3 := (List.getElem?_eq_some_iff.1 h2).1
    have h4 := (List.getElem?_eq_some_iff.1 h2).2
    rw [← h4, List.set_getElem_self]
  have e1 := flat_set _ n (slotL (.full k v0)) (rowL_len l) (by rw [hl]; exact hnl)
  rw [e0] at e1
  have e2 := flat_set _ n (slotL (.full k v)) (rowL_len l) (by rw [hl]; exact hnl)
  have e3 : (rowL l).flatten.take (n * 37 + 33) ++ v.L ++ (rowL l).flatten.drop (n * 37 + 33 + v.L.length) = (rowL (l.set n (.full k v))).flatten := by
    rw [rowL_set, e2]
    have hd : (rowL l).flatten.drop (n * 37 + 33 + v.L.length) = (rowL l).flatten.drop (n * 37 + 37) := by rw [Ent.len]
    rw [hd]
    have ht : (rowL l).flatten.take (n * 37 + 33) = (rowL l).flatten.take (n * 37) ++ (.int .u8 1 :: k.L) := by
      have hA : ((rowL l).flatten.take (n * 37)).length = n * 37 := by rw [List.length_take, hz, hl]; omega
      have hs : slotL (.full k v0) = (.int .u8 1 :: k.L) ++ v0.L := rfl
      rw [hs] at e1
      have h5 := take_mid (H := .int .u8 1 :: k.L) (E := v0.L ++ (rowL l).flatten.drop (n * 37 + 37)) hA (by rw [List.length_cons, Key.len] : (Value.int .u8 1 :: k.L).length = 33)
      have e5 : (rowL l).flatten = (rowL l).flatten.take (n * 37) ++ ((.int .u8 1 :: k.L) ++ (v0.L ++ (rowL l).flatten.drop (n * 37 + 37))) := by
        rw [← List.append_assoc (.int .u8 1 :: k.L), ← List.append_assoc]
        exact e1
      rw [← e5] at h5
      exact h5
    rw [ht]
    have hs : slotL (.full k v) = (.int .u8 1 :: k.L) ++ v.L := rfl
    rw [hs]
    simp only [List.append_assoc]
  rw [e3] at h1
  exact h1
def W4 (w : World) (k : Key) (v : Ent) : World := (((w.alloc (.cells k.L.toArray 39)).alloc (.cells v.L.toArray 56)).alloc (.cells #[.int .i64 0, .int .i64 0, .int .i64 0, .int .u32 0] 56)).alloc (.cells #[.int .i64 0, .int .i64 0, .int .i64 0, .int .u32 0] 56)
theorem w4_facts (w : World) (k : Key) (v : Ent) : Mod no w (W4 w k v) ∧ (W4 w k v).rangeAt w.heap.size 0 k.L ∧ (W4 w k v).rangeAt (w.heap.size + 1) 0 v.L ∧ Blk (W4 w k v) (w.heap.size + 1 + 1) 56 e0.L.toArray ∧ Blk (W4 w k v) (w.heap.size + 1 + 1 + 1) 56 e0.L.toArray ∧ (W4 w k v).heap.size = w.heap.size + 4 :=
  ⟨((((Mod.refl no w).alloc _).alloc _).alloc _).alloc _, blk_range ((((Blk.new w 39 k.L.toArray).alloc _).alloc _).alloc _), blk_range (((Blk.new_at (w.alloc (.cells k.L.toArray 39)) 56 v.L.toArray (by simp)).alloc _).alloc _),
   (Blk.new_at ((w.alloc (.cells k.L.toArray 39)).alloc (.cells v.L.toArray 56)) 56 e0.L.toArray (by simp)).alloc _,
   Blk.new_at (((w.alloc (.cells k.L.toArray 39)).alloc (.cells v.L.toArray 56)).alloc (.cells #[.int .i64 0, .int .i64 0, .int .i64 0, .int .u32 0] 56)) 56 e0.L.toArray (by simp), by unfold W4; simp⟩
set_option maxRecDepth 100000 in
set_option maxHeartbeats 4000000 in
theorem put_any {w : World} {g : Nat} {R : Nat → Prop} {t : Tab Key Ent} (ht : TabAt w g R t) (hw : WF hash 1 t) (hb : t.L.length < 1073741824) (k : Key) (v : Ent) :
    Calls Try.prog 55 #[.pointer (some ⟨g, 0, none⟩), .agg k.L.toArray, .agg v.L.toArray] w fun e w' => (∃ r, e = .returned (gotV r) ∧ Found t.L k r) ∧ (∃ t', WF hash 1 t' ∧ t'.L.Perm ((k, v) :: less t.L k) ∧ TabAt w' g (ext R w w') t') ∧ Mod R w w' := by
  obtain ⟨ya, ys, po, ht⟩ := ht
  obtain ⟨f1, f2, f3, f4, f5, f6⟩ := w4_facts w k v
  have ht1 := ht.small.mod f1 (fun _ _ c => c)
  have HA := Lib.hid (And.intro ht1 (And.intro f1 (And.intro f2 (And.intro f3 (And.intro f4 (And.intro f5 f6))))))
  have HW := Lib.hid (And.intro hw hb)
  clear ht hw hb f1 f2 f3 f4 f5 f6 ht1
  go_enter Try.func55, Try.ntmps55
  go_upto_region 4 with (first
    | (go_at_call 85; refine (made_any ⟨ya, ys, po, HA.out.1⟩).mono ?_; rintro e w' ⟨rfl, rfl⟩))
  obtain ⟨w3, hw3⟩ : ∃ w3, w3 = W4 w k v := ⟨_, rfl⟩
  rw [← hw3] at HA ⊢
  clear hw3
  obtain ⟨h0, hh0⟩ : ∃ h0, h0 = w.heap.size := ⟨_, rfl⟩
  have HH := Lib.hid hh0
  obtain ⟨R0, hR0⟩ : ∃ R0, R0 = small R w := ⟨_, rfl⟩
  have HR0 := Lib.hid hR0
  rw [← hh0, ← hR0] at HA
  rw [← hh0]
  clear hh0 hR0
  go_upto_region 5 with (first
    | (go_at_call 86; refine (step_any HA.out.1 HW.out.1).mono ?_; rintro e w4 ⟨rfl, ⟨po1, ht4⟩, hm4⟩; have H4 := Lib.hid (And.intro ht4 hm4); clear ht4 hm4))
  have hnb : ∀ x, h0 ≤ x → ¬ R0 x := fun x hx c => by rw [HR0.out] at c; have := c.2; have := HH.out; omega
  have HS := Lib.hid (step_wf HW.out.1)
  obtain ⟨t1, ht1⟩ : ∃ t1, t1 = step hash t := ⟨_, rfl⟩
  rw [← ht1] at H4 HS
  have HB := Lib.hid (show w4.rangeAt h0 0 k.L ∧ w4.rangeAt (h0 + 1) 0 v.L ∧ Blk w4 (h0 + 1 + 1) 56 e0.L.toArray ∧ Blk w4 (h0 + 1 + 1 + 1) 56 e0.L.toArray from ⟨range_mod HA.out.2.2.1 H4.out.2 (hnb _ (by omega)), range_mod HA.out.2.2.2.1 H4.out.2 (hnb _ (by omega)), HA.out.2.2.2.2.1.mod H4.out.2 (hnb _ (by omega)), HA.out.2.2.2.2.2.1.mod H4.out.2 (hnb _ (by omega))⟩)
  have HNB := Lib.hid hnb
  have HMW := Lib.hid (show Mod R0 w w4 ∧ h0 + 4 ≤ w4.heap.size from ⟨(HA.out.2.1.mono (fun _ _ c => c.elim)).and_then H4.out.2, by have := H4.out.2.size; have := HA.out.2.2.2.2.2.2; have := HH.out; omega⟩)
  clear ht1 hnb
  refine wp_region_held_drew (S := fun w' => TabM w' g R0 t1 ya ys po1 ∧ w'.rangeAt h0 0 k.L ∧ w'.rangeAt (h0 + 1) 0 v.L ∧ Blk w' (h0 + 1 + 1) 56 e0.L.toArray ∧ Blk w' (h0 + 1 + 1 + 1) 56 e0.L.toArray) (by kernel_rfl) ⟨H4.out.1.drew, HB.out⟩ (fun hHeld => ?_)
  refine takeD (i := 0) (d := some 21) (v := (.pointer (some ⟨g, 0, none⟩))) rfl (by kernel_rfl) (by kernel_rfl) (by kernel_rfl) rfl (fun _ _ _ h => h) (Or.inl ⟨by kernel_rfl, fun w9 hw => y_move rfl rfl⟩) hHeld ?_
  simp only [Act.put, List.setIfInBounds_toArray, List.set_cons_zero, List.set_cons_succ]
  refine takeD (i := 1) (d := some 22) (v := (.pointer (some ⟨g, 0, none⟩))) rfl (by kernel_rfl) (by kernel_rfl) (by kernel_rfl) rfl (fun _ _ _ h => h) (Or.inl ⟨by kernel_rfl, fun w9 hw => y_nil rfl rfl⟩) hHeld ?_
  simp only [Act.put, List.setIfInBounds_toArray, List.set_cons_zero, List.set_cons_succ]
  refine takeD (i := 2) (d := some 23) (v := (.pointer (some ⟨g, 0, none⟩))) rfl (by kernel_rfl) (by kernel_rfl) (by kernel_rfl) rfl (fun _ _ _ h => h) (Or.inl ⟨by kernel_rfl, fun w9 hw => y_ft (by decide) rfl rfl⟩) hHeld ?_
  simp only [Act.put, List.setIfInBounds_toArray, List.set_cons_zero, List.set_cons_succ]
  refine takeD (i := 3) (d := some 24) (v := (hashV)) rfl (by kernel_rfl) (by kernel_rfl) (by kernel_rfl) rfl (fun _ _ _ h => h) (Or.inl ⟨by kernel_rfl, fun w9 hw => y_one rfl (by decide) rfl (hw.1.b.cell 0) rfl⟩) hHeld ?_
  simp only [Act.put, List.setIfInBounds_toArray, List.set_cons_zero, List.set_cons_succ]
  refine takeD (i := 4) (d := some 25) (v := (.agg k.L.toArray)) rfl (by kernel_rfl) (by kernel_rfl) (by kernel_rfl) rfl (fun _ _ _ h => h) (Or.inl ⟨by kernel_rfl, fun w9 hw => y_key rfl rfl hw.2.1⟩) hHeld ?_
  simp only [Act.put, List.setIfInBounds_toArray, List.set_cons_zero, List.set_cons_succ]
  refine readyD (i := 5) (d := some 26) rfl (by kernel_rfl) rfl (by kernel_rfl) fun K hK => ?_
  refine op_v1 (fun _ _ => rfl) rfl rfl rfl (hash_any k _) ?_
  rintro e w5 ⟨rfl, hm5⟩
  have HM5 := Lib.hid (show Mod no w4 w5 from (Mod.refl no _).drew.and_then hm5)
  refine ⟨_, rfl, hK _ _ ⟨hHeld.1.mod hm5 (fun _ _ c => c), range_mod hHeld.2.1 hm5 (fun c => c), range_mod hHeld.2.2.1 hm5 (fun c => c), hHeld.2.2.2.1.mod hm5 (fun c => c), hHeld.2.2.2.2.mod hm5 (fun c => c)⟩ fun hHeld9 => ?_⟩
  clear hK K hHeld
  have hHeld := hHeld9
  clear hHeld9
  simp only [Act.put, List.setIfInBounds_toArray, List.set_cons_zero, List.set_cons_succ]
  refine takeD (i := 6) (d := some 9) (v := (.int .u64 (hash k : Int))) rfl (by kernel_rfl) (by kernel_rfl) (by kernel_rfl) rfl (fun _ _ _ h => h) (Or.inl ⟨by kernel_rfl, fun w9 hw => y_assign rfl rfl⟩) hHeld ?_
  simp only [Act.put, List.setIfInBounds_toArray, List.set_cons_zero, List.set_cons_succ]
  refine wpAnyH_done (by kernel_rfl) ?_ _
  have H5 := Lib.hid hHeld
  clear hHeld
  go_upto_region 7 with (first
    | (refine wpList_load_mid rfl 39 (.tmp 4) (by rfl) h0 0 (by rfl) k.L _ (by exact H5.out.2.1) Try.underlying39 rfl (key_sizeG k.len) ?_)
    | (go_at_call 87; refine (seek_wf H5.out.1 HS.out.2.1 k).mono ?_; rintro e w6 ⟨hm6, p, at_, d, rfl, hl⟩; have HL := Lib.hid hl; have HM6 := Lib.hid hm6; clear hl hm6))
  have H6 := Lib.hid (show TabM w6 g R0 t1 ya ys po1 ∧ w6.rangeAt h0 0 k.L ∧ w6.rangeAt (h0 + 1) 0 v.L ∧ Blk w6 (h0 + 1 + 1) 56 e0.L.toArray ∧ Blk w6 (h0 + 1 + 1 + 1) 56 e0.L.toArray ∧ Mod R0 w w6 ∧ h0 + 4 ≤ w6.heap.size from
    ⟨H5.out.1.mod HM6.out (fun _ _ c => c), range_mod H5.out.2.1 HM6.out (fun c => c), range_mod H5.out.2.2.1 HM6.out (fun c => c), H5.out.2.2.2.1.mod HM6.out (fun c => c), H5.out.2.2.2.2.mod HM6.out (fun c => c), (HMW.out.1.and_then (HM5.out.mono (fun _ _ c => c.elim))).and_then (HM6.out.mono (fun _ _ c => c.elim)), by have := HMW.out.2; have := HM5.out.size; have := HM6.out.size; omega⟩)
  have c1 := H6.out.1.b.cell 1
  have hle : ∀ x, R0 x → R x := fun x hx => by rw [HR0.out] at hx; exact hx.1
  have HLE := Lib.hid hle
  clear hle
  cases HL.out with
  | young n v0 h1 h2 h3 =>
    subst h1 h2
    have hnl : n < t1.y.length := (List.getElem?_eq_some_iff.1 h3).1
    have c0 := H6.out.1.y.a.cell 0
    have g1 : (n : Int) < (t1.y.length : Int) := by omega
    have g2 : ¬ (n : Int) < 0 := by omega
    have HY := Lib.hid (And.intro h3 (And.intro hnl (show Found t.L k (some v0) from (Found.yes HS.out.2.1.nk (by unfold Tab.L; exact List.mem_append_right _ (mem_ents.2 ⟨n, h3⟩))).perm HS.out.1)))
    have HRE := Lib.hid (H6.out.1.y.ent h3)
    have heq := run_eql_ptr_same (P := Try.prog) w6 (tp := 124) (te := 136) ⟨ya, 0, none⟩ Try.underlying124 arr_info.choose_spec.1
    clear h3 hnl HL
    go_upto_region 9 with (first
      | (refine wpList_load_mid rfl 56 (.tmp 52) (by rfl) ys (n * 37 + 33) (by rfl) v0.L _ (by exact HRE.out) Try.underlying56 rfl (ent_sizeG _) ?_)
      | (refine wpList_store_mid rfl 56 (.tmp 13) (.tmp 53) (by rfl) w6.heap.size 0 v0.L.toArray (by rfl) (by rfl) (by exact blk_there (Blk.new w6 56 #[.int .i64 0, .int .i64 0, .int .i64 0, .int .u32 0]) 0 4 (by decide)) (ent_sizeG _) (all_oneCell_toArray (ent_ones _)) ?_
         obtain ⟨w7, hw7⟩ : ∃ w7, w7 = World.setCells (w6.alloc (.cells #[.int .i64 0, .int .i64 0, .int .i64 0, .int .u32 0] 56)) w6.heap.size 0 v0.L.toArray.toList := ⟨_, rfl⟩
         rw [← hw7]
         have HW7 := Lib.hid hw7
         clear hw7))
    simp only [Act.put]
    have hm7 : Mod no w6 w7 := by rw [HW7.out]; exact mod_setCells (fun c => absurd c (Nat.lt_irrefl _)) _ _ _ ((Mod.refl no w6).alloc _)
    have hr7 : w7.rangeAt w6.heap.size 0 v0.L := by rw [HW7.out]; exact World.rangeAt_setCells_same _ _ _ _ (blk_there (Blk.new w6 56 #[.int .i64 0, .int .i64 0, .int .i64 0, .int .u32 0]) 0 4 (by decide))
    have H7 := Lib.hid (show TabM w7 g R0 t1 ya ys po1 ∧ w7.rangeAt (h0 + 1) 0 v.L ∧ Blk w7 (h0 + 1 + 1) 56 e0.L.toArray ∧ Mod R0 w w7 ∧ w7.rangeAt w6.heap.size 0 v0.L from
      ⟨H6.out.1.mod hm7 (fun _ _ c => c), range_mod H6.out.2.2.1 hm7 (fun c => c), H6.out.2.2.2.1.mod hm7 (fun c => c), H6.out.2.2.2.2.2.1.and_then (hm7.mono (fun _ _ c => c.elim)), hr7⟩)
    have HX := Lib.hid (show ys < w6.heap.size ∧ ys ≠ h0 + 1 ∧ ys ≠ h0 + 1 + 1 ∧ ya ≠ ys ∧ R0 ys from ⟨H6.out.1.y.s.lt, fun c => HNB.out (h0 + 1) (by omega) (c ▸ H6.out.1.rs), fun c => HNB.out (h0 + 1 + 1) (by omega) (c ▸ H6.out.1.rs), H6.out.1.y.ne, H6.out.1.rs⟩)
    clear hm7 hr7 heq c0 c1
    obtain ⟨bz, hbz⟩ : ∃ bz, bz = w6.heap.size := ⟨_, rfl⟩
    rw [← hbz] at H7 HX ⊢
    have HBZ := Lib.hid hbz
    clear hbz
    refine wp_region_held_drew (S := fun w' => Blk w' ya 136 #[.slice (some ⟨ys, 0, none⟩) t1.y.length t1.y.length, .int .i64 ((ents t1.y).length : Int), .int .i64 ((tombs t1.y : Nat) : Int)] ∧ w'.rangeAt (h0 + 1) 0 v.L) (by kernel_rfl) ⟨H7.out.1.y.a, H7.out.2.1⟩ (fun hHeld => ?_)
    refine takeD (i := 0) (d := some 54) (v := (.pointer (some ⟨ya, 0, none⟩))) rfl (by kernel_rfl) (by kernel_rfl) (by kernel_rfl) rfl (fun _ _ _ h => h) (Or.inl ⟨by kernel_rfl, fun w9 hw => y_move rfl rfl⟩) hHeld ?_
    simp only [Act.put, List.setIfInBounds_toArray, List.set_cons_zero, List.set_cons_succ]
    refine takeD (i := 1) (d := some 55) (v := (.pointer (some ⟨ya, 0, none⟩))) rfl (by kernel_rfl) (by kernel_rfl) (by kernel_rfl) rfl (fun _ _ _ h => h) (Or.inl ⟨by kernel_rfl, fun w9 hw => y_nil rfl rfl⟩) hHeld ?_
    simp only [Act.put, List.setIfInBounds_toArray, List.set_cons_zero, List.set_cons_succ]
    refine takeD (i := 2) (d := some 56) (v := (.pointer (some ⟨ya, 0, none⟩))) rfl (by kernel_rfl) (by kernel_rfl) (by kernel_rfl) rfl (fun _ _ _ h => h) (Or.inl ⟨by kernel_rfl, fun w9 hw => y_fa (by decide) rfl rfl⟩) hHeld ?_
    simp only [Act.put, List.setIfInBounds_toArray, List.set_cons_zero, List.set_cons_succ]
    refine takeD (i := 3) (d := some 57) (v := (.slice (some ⟨ys, 0, none⟩) t1.y.length t1.y.length)) rfl (by kernel_rfl) (by kernel_rfl) (by kernel_rfl) rfl (fun _ _ _ h => h) (Or.inl ⟨by kernel_rfl, fun w9 hw => y_one rfl (by decide) rfl (hw.1.cell 0) rfl⟩) hHeld ?_
    simp only [Act.put, List.setIfInBounds_toArray, List.set_cons_zero, List.set_cons_succ]
    refine takeD (i := 4) (d := some 58) (v := (.int .i64 (n : Int))) rfl (by kernel_rfl) (by kernel_rfl) (by kernel_rfl) rfl (fun _ _ _ h => h) (Or.inl ⟨by kernel_rfl, fun w9 hw => y_move rfl rfl⟩) hHeld ?_
    simp only [Act.put, List.setIfInBounds_toArray, List.set_cons_zero, List.set_cons_succ]
    refine takeD (i := 5) (d := some 59) (v := (.agg v.L.toArray)) rfl (by kernel_rfl) (by kernel_rfl) (by kernel_rfl) rfl (fun _ _ _ h => h) (Or.inl ⟨by kernel_rfl, fun w9 hw => y_ent rfl rfl hw.2⟩) hHeld ?_
    simp only [Act.put, List.setIfInBounds_toArray, List.set_cons_zero, List.set_cons_succ]
    refine takeD (i := 6) (d := some 60) (v := (.pointer (some ⟨ys, n * 37, none⟩))) rfl (by kernel_rfl) (by kernel_rfl) (by kernel_rfl) rfl (fun _ _ _ h => h) (Or.inl ⟨by kernel_rfl, fun w9 hw => y_ix rfl rfl rfl HY.out.2.1⟩) hHeld ?_
    simp only [Act.put, List.setIfInBounds_toArray, List.set_cons_zero, List.set_cons_succ]
    refine takeD (i := 7) (d := some 61) (v := (.pointer (some ⟨ys, n * 37 + 33, none⟩))) rfl (by kernel_rfl) (by kernel_rfl) (by kernel_rfl) rfl (fun _ _ _ h => h) (Or.inl ⟨by kernel_rfl, fun w9 hw => y_sv rfl rfl⟩) hHeld ?_
    simp only [Act.put, List.setIfInBounds_toArray, List.set_cons_zero, List.set_cons_succ]
    refine readyD (i := 8) (d := none) rfl (by kernel_rfl) rfl (by kernel_rfl) fun K hK => ?_
    refine wp_store_mid 56 (.tmp 61) (.tmp 59) rfl ys (n * 37 + 33) v.L.toArray rfl rfl (by exact blk_there (show Blk w7.drew ys 133 _ from H7.out.1.y.s) _ 4 (by rw [List.size_toArray, flat_len _ (rowL_len _)]; unfold rowL; rw [List.length_map]; have := HY.out.2.1; omega)) (ent_sizeG _) (all_oneCell_toArray (ent_ones _)) ?_
    have m8 : Mod (one ys) w7.drew (World.setCells w7.drew ys (n * 37 + 33) v.L) := mod_setCells (S := one ys) (fun _ => rfl) _ _ _ (Mod.refl _ _)
    have b8 : Blk (World.setCells w7.drew ys (n * 37 + 33) v.L) ys 133 (rowL (t1.y.set n (.full k v))).flatten.toArray := ArrAt.putV (show ArrAt w7.drew ya ys t1.y (ents t1.y).length (tombs t1.y) from ⟨H7.out.1.y.a, H7.out.1.y.s⟩) HY.out.1 v
    refine hK _ _ ⟨hHeld.1.mod m8 (fun c => HX.out.2.2.2.1 c), range_mod hHeld.2 m8 (fun c => HX.out.2.1 (Eq.symm c))⟩ fun _ => ?_
    have H8' := Lib.hid (show Mod (one ys) w7 (World.setCells w7.drew ys (n * 37 + 33) v.L) ∧ Blk (World.setCells w7.drew ys (n * 37 + 33) v.L) ys 133 (rowL (t1.y.set n (.full k v))).flatten.toArray from ⟨(Mod.refl _ w7).drew.and_then m8, b8⟩)
    clear hK K hHeld m8 b8
    simp only [Act.put, List.setIfInBounds_toArray, List.set_cons_zero, List.set_cons_succ]
    refine wpAnyH_done (by kernel_rfl) ?_ _
    try simp only [List.toList_toArray]
    obtain ⟨w8, hw8⟩ : ∃ w8, w8 = World.setCells w7.drew ys (n * 37 + 33) v.L := ⟨_, rfl⟩
    rw [← hw8] at H8' ⊢
    have H8 := Lib.hid H8'.out
    clear H8' hw8
    have hwf := HS.out.2.1.replace HY.out.1 v
    have hel := ents_len_set (y := .full k v) HY.out.1
    have htl := tombs_set t1.y n (.full k v0) (.full k v) HY.out.1
    simp only [Slot.ent, Option.toList_some, List.length_cons, List.length_nil] at hel
    simp only [Slot.isTomb, Bool.toNat_false] at htl
    have HF := Lib.hid (show TabM w8 g R0 ⟨t1.y.set n (.full k v), t1.o, t1.m⟩ ya ys po1 ∧ w8.rangeAt bz 0 v0.L ∧ Blk w8 (h0 + 1 + 1) 56 e0.L.toArray ∧ Mod R0 w w8 from
      ⟨H7.out.1.young (H8.out.1.mono (fun _ _ c => .inr c)) (by
        have hA : ArrAt w8 ya ys (t1.y.set n (.full k v)) (ents t1.y).length (tombs t1.y) := ⟨by rw [List.length_set]; exact H7.out.1.y.a.mod H8.out.1 (fun c => HX.out.2.2.2.1 c), H8.out.2⟩
        rw [show (ents (t1.y.set n (.full k v))).length = (ents t1.y).length by omega, show tombs (t1.y.set n (.full k v)) = tombs t1.y by omega]
        exact hA), range_mod H7.out.2.2.2.2 H8.out.1 (fun c => by have c : bz = ys := c; have := HX.out.1; omega), H7.out.2.2.1.mod H8.out.1 (fun c => HX.out.2.2.1 (Eq.symm c)), H7.out.2.2.2.1.and_then (H8.out.1.mono (fun x _ c => by have c : x = ys := c; rw [c]; exact HX.out.2.2.2.2))⟩)
    have HWF := Lib.hid (show WF hash 1 (⟨t1.y.set n (.full k v), t1.o, t1.m⟩ : Tab Key Ent) ∧ (⟨t1.y.set n (.full k v), t1.o, t1.m⟩ : Tab Key Ent).L.Perm ((k, v) :: less t.L k) from ⟨hwf.1, hwf.2.trans ((less_perm HS.out.1 k).cons _)⟩)
    clear hwf hel htl
    go_wp2_with (first
      | (refine wpList_load_mid rfl 56 (.tmp 13) (by rfl) bz 0 (by rfl) v0.L _ (by exact HF.out.2.1) Try.underlying56 rfl (ent_sizeG _) ?_)
      | (refine wpList_store_mid rfl 56 (.tmp 6) (.tmp 62) (by rfl) (h0 + 1 + 1) 0 v0.L.toArray (by rfl) (by rfl) (by exact blk_there HF.out.2.2.1 0 4 (by decide)) (ent_sizeG _) (all_oneCell_toArray (ent_ones _)) ?_
         obtain ⟨wz, hwz⟩ : ∃ wz, wz = World.setCells w8 (h0 + 1 + 1) 0 v0.L.toArray.toList := ⟨_, rfl⟩
         rw [← hwz]
         have HWZ := Lib.hid hwz
         clear hwz))
    have rz : wz.rangeAt (h0 + 1 + 1) 0 v0.L := by rw [HWZ.out]; exact World.rangeAt_setCells_same _ _ _ _ (blk_there HF.out.2.2.1 0 4 (by decide))
    have mz : Mod R0 w wz := by rw [HWZ.out]; exact mod_setCells (fun c => by have := HH.out; omega) _ _ _ HF.out.2.2.2
    have mwz : Mod (one (h0 + 1 + 1)) w8 wz := by rw [HWZ.out]; exact mod_setCells (S := one (h0 + 1 + 1)) (fun _ => rfl) _ _ _ (Mod.refl _ _)
    have htz := HF.out.1.mod mwz (fun x hx c => by have c : x = h0 + 1 + 1 := c; rw [c] at hx; exact HNB.out _ (by omega) hx)
    exact bodyPost_ret (v := gotV (some v0)) (ret_two (p := 6) (u := 7) (ty := 56) rfl _ _ (h0 + 1 + 1) v0.L _ rfl rfl rz Try.underlying56 rfl (ent_sizeG _)) rfl ⟨⟨_, rfl, HY.out.2.2⟩, ⟨_, HWF.out.1, HWF.out.2, ya, ys, _, htz.mono (fun x hx => .inl (HLE.out x hx))⟩, mz.mono (fun x _ c => HLE.out x c)⟩
  | old l oa os n v0 h0' h1 h2 h3 h4 h5 h6 h7 h8 h9 h10 =>
    subst h2 h3 h1
    have hul := ents_le l
    have hyb := (HS.out.2.1.old l h0').1.bd
    have hbl := ents_len_set (y := .tomb) h4
    have htl := tombs_set l n (.full k v0) .tomb h4
    simp only [Slot.ent, Option.toList_some, Option.toList_none, List.length_cons, List.length_nil] at hbl
    simp only [Slot.isTomb, Bool.toNat_false, Bool.toNat_true] at htl
    have HY := Lib.hid (And.intro h4 (And.intro (show (ents l).length = (ents (l.set n .tomb)).length + 1 ∧ tombs (l.set n .tomb) = tombs l + 1 ∧ (ents l).length ≤ 1099511627776 ∧ tombs l ≤ 1099511627776 from ⟨by omega, by omega, by omega, by omega⟩) (show Found t.L k (some v0) from (Found.yes HS.out.2.1.nk (by unfold Tab.L; rw [h0']; exact List.mem_append_left _ (mem_ents.2 ⟨n, h4⟩))).perm HS.out.1)))
    have hbo := HS.out.2.1.buryO h0' h4
    have hnot : ∀ v', (k, v') ∉ (⟨t1.y, some (l.set n .tomb), t1.m⟩ : Tab Key Ent).L := fun v' hv' => (less_mem.1 (hbo.2.mem_iff.1 hv')).2 rfl
    have hly := hbo.1.lay hnot v
    obtain ⟨gg, dd, x, l1, l2, l3, l4, l5, l6, l7, l8, l9⟩ := lay_is (v := v) HS.out.2.1.oky h5 HS.out.2.1.room
    have hyb2 := HS.out.2.1.py.bd
    have hul2 := ents_le t1.y
    have HL2 := Lib.hid (show find t1.y (hash k) k = (none, some gg, dd) ∧ lay hash t1.y k v = t1.y.set gg (.full k v) ∧ t1.y[gg]? = some x ∧ (x = .empty ∨ x = .tomb) ∧ (ents (lay hash t1.y k v)).length = (ents t1.y).length + 1 ∧ tombs (lay hash t1.y k v) + x.isTomb.toNat = tombs t1.y ∧ (ents t1.y).length ≤ 1099511627776 ∧ tombs (lay hash t1.y k v) ≤ 1099511627776 from ⟨l1, l2, l3, l4, l7, l8, by omega, by omega⟩)
    have HWF := Lib.hid (show WF hash 1 (⟨lay hash t1.y k v, some (l.set n .tomb), t1.m⟩ : Tab Key Ent) ∧ (⟨lay hash t1.y k v, some (l.set n .tomb), t1.m⟩ : Tab Key Ent).L.Perm ((k, v) :: less t.L k) from ⟨hly.1, hly.2.trans ((hbo.2.trans (less_perm HS.out.1 k)).cons _)⟩)
    have HO := Lib.hid (And.intro h6 (And.intro h7 (And.intro h8 (And.intro h9 h10))))
    have heq := run_eql_ptr_other (P := Try.prog) w6 (tp := 124) (te := 136) (a := ⟨oa, 0, none⟩) (b := ⟨ya, 0, none⟩) Try.underlying124 arr_info.choose_spec.1 arr_info.choose_spec.2 (fun c => h9 (by injection c)) h6.a H6.out.1.y.a
    have g2 : ¬ (n : Int) < 0 := by omega
    have HNB1 := Lib.hid (show ∀ x, h0 ≤ x → ¬ two oa os x from fun x hx c => by rcases c with c | c; exact HNB.out x hx (c ▸ h7); exact HNB.out x hx (c ▸ h8))
    have HNB2 := Lib.hid (show (∀ x, h0 ≤ x → ¬ two ya ys x) ∧ ¬ two ya ys g from ⟨fun x hx c => by rcases c with c | c; exact HNB.out x hx (c ▸ H6.out.1.ry); exact HNB.out x hx (c ▸ H6.out.1.rs), fun c => c.elim (H6.out.1.b.ne H6.out.1.y.a (by decide)) (H6.out.1.b.ne H6.out.1.y.s (by decide))⟩)
    clear hul hyb hbl htl h4 h0' h5 h6 h7 h8 h9 h10 HL hbo hnot hly l1 l2 l3 l4 l5 l6 l7 l8 l9 hyb2 hul2
    go_upto_region 13 with (first
      | (go_at_call 88; refine (bury_any (u := (ents (l.set n .tomb)).length) (t := tombs l) (by rw [← HY.out.2.1.1]; exact HO.out.1) HY.out.1 (by have := HY.out.2.1.1; have := HY.out.2.1.2.2.1; omega) HY.out.2.1.2.2.2).mono ?_; rintro e w7 ⟨rfl, ha7, hm7⟩; have H7 := Lib.hid (And.intro ha7 hm7); clear ha7 hm7 heq c1)
      | (refine wpList_store_mid rfl 56 (.tmp 14) (.tmp 68) (by rfl) w7.heap.size 0 v0.L.toArray (by rfl) (by rfl) (by exact blk_there (Blk.new w7 56 #[.int .i64 0, .int .i64 0, .int .i64 0, .int .u32 0]) 0 4 (by decide)) (ent_sizeG _) (all_oneCell_toArray (ent_ones _)) ?_
         obtain ⟨w8, hw8⟩ : ∃ w8, w8 = World.setCells (w7.alloc (.cells #[.int .i64 0, .int .i64 0, .int .i64 0, .int .u32 0] 56)) w7.heap.size 0 v0.L.toArray.toList := ⟨_, rfl⟩
         rw [← hw8]
         have HW8 := Lib.hid hw8
         clear hw8))
    simp only [Act.put]
    have hm8 : Mod no w7 w8 := by rw [HW8.out]; exact mod_setCells (fun c => absurd c (Nat.lt_irrefl _)) _ _ _ ((Mod.refl no w7).alloc _)
    have hr8 : w8.rangeAt w7.heap.size 0 v0.L := by rw [HW8.out]; exact World.rangeAt_setCells_same _ _ _ _ (blk_there (Blk.new w7 56 #[.int .i64 0, .int .i64 0, .int .i64 0, .int .u32 0]) 0 4 (by decide))
    have hA7 := H7.out.1
    rw [← HY.out.2.1.2.1] at hA7
    have hT7 := H6.out.1.elder HO.out.1 HO.out.2.1 HO.out.2.2.1 HO.out.2.2.2.1 HO.out.2.2.2.2 H7.out.2 hA7
    obtain ⟨bz, hbz⟩ : ∃ bz, bz = w7.heap.size := ⟨_, rfl⟩
    rw [← hbz] at hr8 ⊢
    have hbz2 : h0 ≤ bz := by have := H6.out.2.2.2.2.2.2; have := H7.out.2.size; omega
    have H8 := Lib.hid (show TabM w8 g R0 ⟨t1.y, some (l.set n .tomb), t1.m⟩ ya ys (some ⟨oa, 0, none⟩) ∧ w8.rangeAt h0 0 k.L ∧ w8.rangeAt (h0 + 1) 0 v.L ∧ Blk w8 (h0 + 1 + 1) 56 e0.L.toArray ∧ Mod R0 w w8 ∧ w8.rangeAt bz 0 v0.L ∧ h0 ≤ bz from
      ⟨hT7.mod hm8 (fun _ _ c => c), range_mod (range_mod H6.out.2.1 H7.out.2 (HNB1.out _ (by omega))) hm8 (fun c => c), range_mod (range_mod H6.out.2.2.1 H7.out.2 (HNB1.out _ (by omega))) hm8 (fun c => c), (H6.out.2.2.2.1.mod H7.out.2 (HNB1.out _ (by omega))).mod hm8 (fun c => c), (H6.out.2.2.2.2.2.1.and_then (H7.out.2.mono (fun x _ c => c.elim (fun c => c ▸ HO.out.2.1) (fun c => c ▸ HO.out.2.2.1)))).and_then (hm8.mono (fun _ _ c => c.elim)), hr8, hbz2⟩)
    have HBZ := Lib.hid hbz
    clear hm8 hr8 hA7 hT7 hbz hbz2
    refine wp_region_held_drew (S := fun w' => Blk w' g 127 #[hashV, .pointer (some ⟨ya, 0, none⟩), .pointer (some ⟨oa, 0, none⟩), .int .i64 (t1.m : Int)] ∧ w'.rangeAt h0 0 k.L ∧ w'.rangeAt (h0 + 1) 0 v.L) (by kernel_rfl) ⟨H8.out.1.b, H8.out.2.1, H8.out.2.2.1⟩ (fun hHeld => ?_)
    refine takeD (i := 0) (d := some 69) (v := (.pointer (some ⟨g, 0, none⟩))) rfl (by kernel_rfl) (by kernel_rfl) (by kernel_rfl) rfl (fun _ _ _ h => h) (Or.inl ⟨by kernel_rfl, fun w9 hw => y_move rfl rfl⟩) hHeld ?_
    simp only [Act.put, List.setIfInBounds_toArray, List.set_cons_zero, List.set_cons_succ]
    refine takeD (i := 1) (d := some 70) (v := (.pointer (some ⟨g, 0, none⟩))) rfl (by kernel_rfl) (by kernel_rfl) (by kernel_rfl) rfl (fun _ _ _ h => h) (Or.inl ⟨by kernel_rfl, fun w9 hw => y_nil rfl rfl⟩) hHeld ?_
    simp only [Act.put, List.setIfInBounds_toArray, List.set_cons_zero, List.set_cons_succ]
    refine takeD (i := 2) (d := some 71) (v := (.pointer (some ⟨g, 1, none⟩))) rfl (by kernel_rfl) (by kernel_rfl) (by kernel_rfl) rfl (fun _ _ _ h => h) (Or.inl ⟨by kernel_rfl, fun w9 hw => y_ft (by decide) rfl rfl⟩) hHeld ?_
    simp only [Act.put, List.setIfInBounds_toArray, List.set_cons_zero, List.set_cons_succ]
    refine takeD (i := 3) (d := some 72) (v := (.pointer (some ⟨ya, 0, none⟩))) rfl (by kernel_rfl) (by kernel_rfl) (by kernel_rfl) rfl (fun _ _ _ h => h) (Or.inl ⟨by kernel_rfl, fun w9 hw => y_one rfl (by decide) rfl (hw.1.cell 1) rfl⟩) hHeld ?_
    simp only [Act.put, List.setIfInBounds_toArray, List.set_cons_zero, List.set_cons_succ]
    refine takeD (i := 4) (d := some 73) (v := (.int .u64 (hash k : Int))) rfl (by kernel_rfl) (by kernel_rfl) (by kernel_rfl) rfl (fun _ _ _ h => h) (Or.inl ⟨by kernel_rfl, fun w9 hw => y_move rfl rfl⟩) hHeld ?_
    simp only [Act.put, List.setIfInBounds_toArray, List.set_cons_zero, List.set_cons_succ]
    refine takeD (i := 5) (d := some 74) (v := (.agg k.L.toArray)) rfl (by kernel_rfl) (by kernel_rfl) (by kernel_rfl) rfl (fun _ _ _ h => h) (Or.inl ⟨by kernel_rfl, fun w9 hw => y_key rfl rfl hw.2.1⟩) hHeld ?_
    simp only [Act.put, List.setIfInBounds_toArray, List.set_cons_zero, List.set_cons_succ]
    refine takeD (i := 6) (d := some 75) (v := (.agg v.L.toArray)) rfl (by kernel_rfl) (by kernel_rfl) (by kernel_rfl) rfl (fun _ _ _ h => h) (Or.inl ⟨by kernel_rfl, fun w9 hw => y_ent rfl rfl hw.2.2⟩) hHeld ?_
    simp only [Act.put, List.setIfInBounds_toArray, List.set_cons_zero, List.set_cons_succ]
    refine readyD (i := 7) (d := some 76) rfl (by kernel_rfl) rfl (by kernel_rfl) fun K hK => ?_
    refine op_c4 (fun _ _ => rfl) rfl rfl rfl rfl rfl (lay_any (t := tombs (lay hash t1.y k v)) v (show ArrAt w8.drew ya ys t1.y (ents t1.y).length (tombs (lay hash t1.y k v) + x.isTomb.toNat) by rw [HL2.out.2.2.2.2.2.1]; exact ⟨H8.out.1.y.a, H8.out.1.y.s⟩) HS.out.2.1.py (hash_lt k) HL2.out.1 HL2.out.2.2.1 HL2.out.2.2.2.1 HL2.out.2.2.2.2.2.2.1 HL2.out.2.2.2.2.2.2.2) ?_
    rintro e w9 ⟨rfl, ha9, hm9⟩
    have H9 := Lib.hid (And.intro ha9 (show Mod (two ya ys) w8 w9 from (Mod.refl _ _).drew.and_then hm9))
    refine ⟨_, rfl, hK _ _ ⟨hHeld.1.mod hm9 HNB2.out.2, range_mod hHeld.2.1 hm9 (HNB2.out.1 _ (by omega)), range_mod hHeld.2.2 hm9 (HNB2.out.1 _ (by omega))⟩ fun hHeld9 => ?_⟩
    clear hK K hHeld
    have hHeld := hHeld9
    clear hHeld9
    simp only [Act.put, List.setIfInBounds_toArray, List.set_cons_zero, List.set_cons_succ]
    refine wpAnyH_done (by kernel_rfl) ?_ _
    clear hHeld
    have hA9 := H9.out.1
    rw [← HL2.out.2.1] at hA9
    have HF := Lib.hid (show TabM w9 g R0 ⟨lay hash t1.y k v, some (l.set n .tomb), t1.m⟩ ya ys (some ⟨oa, 0, none⟩) ∧ w9.rangeAt bz 0 v0.L ∧ Blk w9 (h0 + 1 + 1) 56 e0.L.toArray ∧ Mod R0 w w9 from
      ⟨H8.out.1.young H9.out.2 (by rw [HL2.out.2.2.2.2.1]; exact hA9), range_mod H8.out.2.2.2.2.2.1 H9.out.2 (HNB2.out.1 _ H8.out.2.2.2.2.2.2), H8.out.2.2.2.1.mod H9.out.2 (HNB2.out.1 _ (by omega)), H8.out.2.2.2.2.1.and_then (H9.out.2.mono (fun x _ c => c.elim (fun c => c ▸ H8.out.1.ry) (fun c => c ▸ H8.out.1.rs)))⟩)
    clear hA9
    go_wp2_with (first
      | (refine wpList_load_mid rfl 56 (.tmp 14) (by rfl) bz 0 (by rfl) v0.L _ (by exact HF.out.2.1) Try.underlying56 rfl (ent_sizeG _) ?_)
      | (refine wpList_store_mid rfl 56 (.tmp 6) (.tmp 77) (by rfl) (h0 + 1 + 1) 0 v0.L.toArray (by rfl) (by rfl) (by exact blk_there HF.out.2.2.1 0 4 (by decide)) (ent_sizeG _) (all_oneCell_toArray (ent_ones _)) ?_
         obtain ⟨wz, hwz⟩ : ∃ wz, wz = World.setCells w9 (h0 + 1 + 1) 0 v0.L.toArray.toList := ⟨_, rfl⟩
         rw [← hwz]
         have HWZ := Lib.hid hwz
         clear hwz))
    have rz : wz.rangeAt (h0 + 1 + 1) 0 v0.L := by rw [HWZ.out]; exact World.rangeAt_setCells_same _ _ _ _ (blk_there HF.out.2.2.1 0 4 (by decide))
    have mz : Mod R0 w wz := by rw [HWZ.out]; exact mod_setCells (fun c => by have := HH.out; omega) _ _ _ HF.out.2.2.2
    have mwz : Mod (one (h0 + 1 + 1)) w9 wz := by rw [HWZ.out]; exact mod_setCells (S := one (h0 + 1 + 1)) (fun _ => rfl) _ _ _ (Mod.refl _ _)
    have htz := HF.out.1.mod mwz (fun x hx c => by have c : x = h0 + 1 + 1 := c; rw [c] at hx; exact HNB.out _ (by omega) hx)
    exact bodyPost_ret (v := gotV (some v0)) (ret_two (p := 6) (u := 7) (ty := 56) rfl _ _ (h0 + 1 + 1) v0.L _ rfl rfl rz Try.underlying56 rfl (ent_sizeG _)) rfl ⟨⟨_, rfl, HY.out.2.2⟩, ⟨_, HWF.out.1, HWF.out.2, ya, ys, _, htz.mono (fun x hx => .inl (HLE.out x hx))⟩, mz.mono (fun x _ c => HLE.out x c)⟩
  | no h1 h2 =>
    subst h1
    have hky : ∀ v', (k, v') ∉ ents t1.y := fun v' hv' => h2 v' (by unfold Tab.L; exact List.mem_append_right _ hv')
    obtain ⟨gg, dd, x, l1, l2, l3, l4, l5, l6, l7, l8, l9⟩ := lay_is (v := v) HS.out.2.1.oky hky HS.out.2.1.room
    have hyb2 := HS.out.2.1.py.bd
    have hul2 := ents_le t1.y
    have HL2 := Lib.hid (show find t1.y (hash k) k = (none, some gg, dd) ∧ lay hash t1.y k v = t1.y.set gg (.full k v) ∧ t1.y[gg]? = some x ∧ (x = .empty ∨ x = .tomb) ∧ (ents (lay hash t1.y k v)).length = (ents t1.y).length + 1 ∧ tombs (lay hash t1.y k v) + x.isTomb.toNat = tombs t1.y ∧ (ents t1.y).length ≤ 1099511627776 ∧ tombs (lay hash t1.y k v) ≤ 1099511627776 from ⟨l1, l2, l3, l4, l7, l8, by omega, by omega⟩)
    have hly := HS.out.2.1.lay h2 v
    have hnot : ∀ v', (k, v') ∉ t.L := fun v' hv' => h2 v' (HS.out.1.mem_iff.2 hv')
    have HG := Lib.hid (show WF hash 0 (⟨lay hash t1.y k v, t1.o, t1.m⟩ : Tab Key Ent) ∧ (t1.o ≠ none → WF hash 1 (⟨lay hash t1.y k v, t1.o, t1.m⟩ : Tab Key Ent)) ∧ (⟨lay hash t1.y k v, t1.o, t1.m⟩ : Tab Key Ent).L.length ≤ 1073741824 ∧ (⟨lay hash t1.y k v, t1.o, t1.m⟩ : Tab Key Ent).L.Perm ((k, v) :: less t.L k) ∧ Found t.L k none from
      ⟨hly.1, fun c => ((HS.out.2.2 c).lay h2 v).1, by
        have e1 := hly.2.length_eq
        have e2 := HS.out.1.length_eq
        have := HW.out.2
        rw [List.length_cons] at e1
        omega, by rw [less_no hnot]; exact hly.2.trans (HS.out.1.cons _), Found.no hnot⟩)
    have HNB2 := Lib.hid (show (∀ x, h0 ≤ x → ¬ two ya ys x) ∧ ¬ two ya ys g from ⟨fun x hx c => by rcases c with c | c; exact HNB.out x hx (c ▸ H6.out.1.ry); exact HNB.out x hx (c ▸ H6.out.1.rs), fun c => c.elim (H6.out.1.b.ne H6.out.1.y.a (by decide)) (H6.out.1.b.ne H6.out.1.y.s (by decide))⟩)
    clear h2 hky l1 l2 l3 l4 l5 l6 l7 l8 l9 hyb2 hul2 hly hnot HL
    go_upto_region 15 with fail
    clear c1
    refine wp_region_held_drew (S := fun w' => Blk w' g 127 #[hashV, .pointer (some ⟨ya, 0, none⟩), .pointer po1, .int .i64 (t1.m : Int)] ∧ w'.rangeAt h0 0 k.L ∧ w'.rangeAt (h0 + 1) 0 v.L) (by kernel_rfl) ⟨H6.out.1.b, H6.out.2.1, H6.out.2.2.1⟩ (fun hHeld => ?_)
    refine takeD (i := 0) (d := some 78) (v := (.pointer (some ⟨g, 0, none⟩))) rfl (by kernel_rfl) (by kernel_rfl) (by kernel_rfl) rfl (fun _ _ _ h => h) (Or.inl ⟨by kernel_rfl, fun w9 hw => y_move rfl rfl⟩) hHeld ?_
    simp only [Act.put, List.setIfInBounds_toArray, List.set_cons_zero, List.set_cons_succ]
    refine takeD (i := 1) (d := some 79) (v := (.pointer (some ⟨g, 0, none⟩))) rfl (by kernel_rfl) (by kernel_rfl) (by kernel_rfl) rfl (fun _ _ _ h => h) (Or.inl ⟨by kernel_rfl, fun w9 hw => y_nil rfl rfl⟩) hHeld ?_
    simp only [Act.put, List.setIfInBounds_toArray, List.set_cons_zero, List.set_cons_succ]
    refine takeD (i := 2) (d := some 80) (v := (.pointer (some ⟨g, 1, none⟩))) rfl (by kernel_rfl) (by kernel_rfl) (by kernel_rfl) rfl (fun _ _ _ h => h) (Or.inl ⟨by kernel_rfl, fun w9 hw => y_ft (by decide) rfl rfl⟩) hHeld ?_
    simp only [Act.put, List.setIfInBounds_toArray, List.set_cons_zero, List.set_cons_succ]
    refine takeD (i := 3) (d := some 81) (v := (.pointer (some ⟨ya, 0, none⟩))) rfl (by kernel_rfl) (by kernel_rfl) (by kernel_rfl) rfl (fun _ _ _ h => h) (Or.inl ⟨by kernel_rfl, fun w9 hw => y_one rfl (by decide) rfl (hw.1.cell 1) rfl⟩) hHeld ?_
    simp only [Act.put, List.setIfInBounds_toArray, List.set_cons_zero, List.set_cons_succ]
    refine takeD (i := 4) (d := some 82) (v := (.int .u64 (hash k : Int))) rfl (by kernel_rfl) (by kernel_rfl) (by kernel_rfl) rfl (fun _ _ _ h => h) (Or.inl ⟨by kernel_rfl, fun w9 hw => y_move rfl rfl⟩) hHeld ?_
    simp only [Act.put, List.setIfInBounds_toArray, List.set_cons_zero, List.set_cons_succ]
    refine takeD (i := 5) (d := some 83) (v := (.agg k.L.toArray)) rfl (by kernel_rfl) (by kernel_rfl) (by kernel_rfl) rfl (fun _ _ _ h => h) (Or.inl ⟨by kernel_rfl, fun w9 hw => y_key rfl rfl hw.2.1⟩) hHeld ?_
    simp only [Act.put, List.setIfInBounds_toArray, List.set_cons_zero, List.set_cons_succ]
    refine takeD (i := 6) (d := some 84) (v := (.agg v.L.toArray)) rfl (by kernel_rfl) (by kernel_rfl) (by kernel_rfl) rfl (fun _ _ _ h => h) (Or.inl ⟨by kernel_rfl, fun w9 hw => y_ent rfl rfl hw.2.2⟩) hHeld ?_
    simp only [Act.put, List.setIfInBounds_toArray, List.set_cons_zero, List.set_cons_succ]
    refine readyD (i := 7) (d := some 85) rfl (by kernel_rfl) rfl (by kernel_rfl) fun K hK => ?_
    refine op_c4 (fun _ _ => rfl) rfl rfl rfl rfl rfl (lay_any (t := tombs (lay hash t1.y k v)) v (show ArrAt w6.drew ya ys t1.y (ents t1.y).length (tombs (lay hash t1.y k v) + x.isTomb.toNat) by rw [HL2.out.2.2.2.2.2.1]; exact ⟨H6.out.1.y.a, H6.out.1.y.s⟩) HS.out.2.1.py (hash_lt k) HL2.out.1 HL2.out.2.2.1 HL2.out.2.2.2.1 HL2.out.2.2.2.2.2.2.1 HL2.out.2.2.2.2.2.2.2) ?_
    rintro e w9 ⟨rfl, ha9, hm9⟩
    have H9 := Lib.hid (And.intro ha9 (show Mod (two ya ys) w6 w9 from (Mod.refl _ _).drew.and_then hm9))
    refine ⟨_, rfl, hK _ _ ⟨hHeld.1.mod hm9 HNB2.out.2, range_mod hHeld.2.1 hm9 (HNB2.out.1 _ (by omega)), range_mod hHeld.2.2 hm9 (HNB2.out.1 _ (by omega))⟩ fun hHeld9 => ?_⟩
    clear hK K hHeld
    have hHeld := hHeld9
    clear hHeld9
    simp only [Act.put, List.setIfInBounds_toArray, List.set_cons_zero, List.set_cons_succ]
    refine wpAnyH_done (by kernel_rfl) ?_ _
    clear hHeld
    have hA9 := H9.out.1
    rw [← HL2.out.2.1] at hA9
    have HT9 := Lib.hid (show TabM w9 g R0 ⟨lay hash t1.y k v, t1.o, t1.m⟩ ya ys po1 ∧ Blk w9 (h0 + 1 + 1) 56 e0.L.toArray ∧ Blk w9 (h0 + 1 + 1 + 1) 56 e0.L.toArray ∧ Mod R0 w w9 ∧ h0 + 4 ≤ w9.heap.size from
      ⟨H6.out.1.young H9.out.2 (by rw [HL2.out.2.2.2.2.1]; exact hA9), H6.out.2.2.2.1.mod H9.out.2 (HNB2.out.1 _ (by omega)), H6.out.2.2.2.2.1.mod H9.out.2 (HNB2.out.1 _ (by omega)), H6.out.2.2.2.2.2.1.and_then (H9.out.2.mono (fun x _ c => c.elim (fun c => c ▸ H6.out.1.ry) (fun c => c ▸ H6.out.1.rs))), by have := H9.out.2.size; have := H6.out.2.2.2.2.2.2; omega⟩)
    clear hA9
    go_upto_region 17 with (first
      | (go_at_call 90; refine (grow_any HT9.out.1 HG.out.1 HG.out.2.1 HG.out.2.2.1).mono ?_; rintro e w10 ⟨rfl, ⟨t', hw', hL', ht'⟩, hm10⟩; have H10 := Lib.hid (And.intro hw' (And.intro hL' (And.intro ht' hm10))); clear hw' hL' ht' hm10))
    have HB10 := Lib.hid (show Blk w10 (h0 + 1 + 1) 56 e0.L.toArray ∧ Blk w10 (h0 + 1 + 1 + 1) 56 e0.L.toArray from ⟨HT9.out.2.1.mod H10.out.2.2.2 (HNB.out _ (by omega)), HT9.out.2.2.1.mod H10.out.2.2.2 (HNB.out _ (by omega))⟩)
    go_wp2_with (first
      | (refine wpList_load_mid rfl 56 (.tmp 8) (by rfl) (h0 + 1 + 1 + 1) 0 (by rfl) e0.L _ (by exact blk_range HB10.out.2) Try.underlying56 rfl (ent_sizeG _) ?_)
      | (refine wpList_store_mid rfl 56 (.tmp 6) (.tmp 88) (by rfl) (h0 + 1 + 1) 0 e0.L.toArray (by rfl) (by rfl) (by exact blk_there HB10.out.1 0 4 (by decide)) (ent_sizeG _) (all_oneCell_toArray (ent_ones _)) ?_
         obtain ⟨w11, hw11⟩ : ∃ w11, w11 = World.setCells w10 (h0 + 1 + 1) 0 e0.L.toArray.toList := ⟨_, rfl⟩
         rw [← hw11]
         have HW11 := Lib.hid hw11
         clear hw11))
    have r11 : w11.rangeAt (h0 + 1 + 1) 0 e0.L := by rw [HW11.out]; exact World.rangeAt_setCells_same _ _ _ _ (blk_there HB10.out.1 0 4 (by decide))
    have m11 : Mod R0 w w11 := by rw [HW11.out]; exact mod_setCells (fun c => by have := HH.out; omega) _ _ _ (HT9.out.2.2.2.1.and_then H10.out.2.2.2)
    have m1011 : Mod (one (h0 + 1 + 1)) w10 w11 := by rw [HW11.out]; exact mod_setCells (S := one (h0 + 1 + 1)) (fun _ => rfl) _ _ _ (Mod.refl _ _)
    have ht11 := H10.out.2.2.1.mod m1011 (fun x hx c => by
      have c : x = h0 + 1 + 1 := c
      rw [c] at hx
      rcases hx with hx | hx
      · exact HNB.out _ (by omega) hx
      · have := HT9.out.2.2.2.2; omega)
    have hsz1 := HT9.out.2.2.2.1.size
    have hsz2 := m1011.size
    exact bodyPost_ret (v := gotV none) (ret_two (p := 6) (u := 7) (ty := 56) rfl _ _ (h0 + 1 + 1) e0.L _ rfl rfl r11 Try.underlying56 rfl (ent_sizeG _)) rfl ⟨⟨_, rfl, HG.out.2.2.2.2⟩, ⟨t', H10.out.1, by rw [H10.out.2.1]; exact HG.out.2.2.2.1, ht11.mono (fun x hx => hx.elim (fun hx => .inl (HLE.out x hx)) (fun hx => .inr ⟨by omega, by omega⟩))⟩, m11.mono (fun x _ c => HLE.out x c)⟩
end Go.Proofs.Ytknbehjhaaidoaa.TB

