/- An arena made: three segments of 64 bytes (printed by marknil2.py). -/
import Derived.Test.YtcpflggjolkjgaaGreatDoorMnA
import Derived.Test.YtcpflggjolkjgaaGreatDoorHeld
import Derived.Deep.MidRow
namespace Go.Proofs.YtcpflggjolkjgaaGreatDoor.MN
open Go.RowKit Mem HD
set_option linter.unusedVariables false
set_option linter.unusedSimpArgs false

set_option maxRecDepth 100000 in
set_option maxHeartbeats 1000000 in
theorem sized_m {w : World} : Calls Tryz.prog 10 #[.agg #[.int .i64 3, .int .i64 64]] w fun e w' => e = .returned (.bool true) ∧ Mod no w w' := by
  go_enter Tryz.func10, Tryz.ntmps10
  go_wp2_with fail
  go_ret
  exact ⟨rfl, (by first | exact Mod.refl _ _ | exact (Mod.refl _ _).alloc _ | exact ((Mod.refl _ _).alloc _).alloc _ | exact (((Mod.refl _ _).alloc _).alloc _).alloc _)⟩
section
variable {a : Act} {o : Oper} {w w' : World}
set_option maxRecDepth 100000 in
theorem y_fld {x : Operand} {t : TypeId} {k b o' j : Nat} (ho : o.op = .fieldAddr t x k) (hx : a.eval x = .pointer (some ⟨b, o', none⟩)) (hj : (t = 30 ∧ k = 0 ∧ j = 0) ∨ (t = 30 ∧ k = 1 ∧ j = 1) ∨ (t = 61 ∧ k = 1 ∧ j = 2) ∨ (t = 57 ∧ k = 1 ∧ j = 5) ∨ (t = 57 ∧ k = 0 ∧ j = 0) ∨ (t = 54 ∧ k = 0 ∧ j = 0)) : (execOp a.eval o).run Tryz.prog w = .ok (.value (.pointer (some ⟨b, o' + j, none⟩))) w := by
  generalize a.eval = ev at hx
  rcases hj with ⟨rfl, rfl, rfl⟩ | ⟨rfl, rfl, rfl⟩ | ⟨rfl, rfl, rfl⟩ | ⟨rfl, rfl, rfl⟩ | ⟨rfl, rfl, rfl⟩ | ⟨rfl, rfl, rfl⟩ <;>
  · unfold execOp
    simp only [ho, hx]
    go_simp
theorem y_load {x : Operand} {t : TypeId} {p : Addr} {v : Value} (ho : o.op = .load t x) (ht : t = 3 ∨ t = 58) (hx : a.eval x = .pointer (some p)) (hc : w.cell? p = some v) (hv : v.oneCell' = true) : (execOp a.eval o).run Tryz.prog w = .ok (.value v) w := by
  generalize a.eval = ev at hx
  rcases ht with rfl | rfl
  · unfold execOp
    simp only [ho, hx]
    go_simp
  · unfold execOp
    simp only [ho, hx]
    go_simp
theorem y_conf {x : Operand} {b : Nat} {cs : List Value} (ho : o.op = .load 30 x) (hx : a.eval x = .pointer (some ⟨b, 0, none⟩)) (hr : w.rangeAt b 0 cs) (hl : cs.length = 2) : (execOp a.eval o).run Tryz.prog w = .ok (.value (.agg cs.toArray)) w := by
  have hi : (Tryz.prog.info? 30).map (·.size) = some cs.length := by rw [hl]; kernel_rfl
  generalize a.eval = ev at hx
  unfold execOp
  simp only [ho, hx, Sem.run_bind, run_loadAt_mid w b 0 30 cs _ hr Tryz.underlying30 rfl hi, Result.andThen_ok, Sem.run_pure]
set_option maxRecDepth 100000 in
theorem y_idx {x y : Operand} {b n c k : Nat} (ho : o.op = .indexAddr 58 x y) (hx : a.eval x = .slice (some ⟨b, 0, none⟩) n c) (hy : a.eval y = .int .i64 (k : Int)) (hk : k < n) : (execOp a.eval o).run Tryz.prog w = .ok (.value (.pointer (some ⟨b, k * 6, none⟩))) w := by
  have hkn : (k : Int) < (n : Int) := by omega
  generalize a.eval = ev at hx hy
  unfold execOp
  simp only [ho, hx, hy]
  go_simp
set_option maxRecDepth 100000 in
theorem op_storeB {K : Act → World → Prop} {Q : Exit → Act → World → Prop} {x y : Operand} {b o' : Nat} {A : Option Addr} {n c : Nat} {old : Value} (ho : o.op = .store 55 x y) (hx : a.eval x = .pointer (some ⟨b, o', none⟩)) (hy : a.eval y = .slice A n c) (hc : w.cell? ⟨b, o', none⟩ = some old) (hf : w.frozen? ⟨b, o', none⟩ = false)
    (hK : K (a.put o.dst undef) (w.setCell ⟨b, o', none⟩ (.slice A n c))) : Oper.wp Tryz.prog o a w K Q := by
  have h : (execOp a.eval o).run Tryz.prog w = .ok .skip (w.setCell ⟨b, o', none⟩ (.slice A n c)) := by
    generalize a.eval = ev at hx hy
    unfold execOp
    simp only [ho, hx, hy]
    go_simp
  unfold Oper.wp
  rw [h]
  exact hK
set_option maxRecDepth 100000 in
theorem op_storeS {K : Act → World → Prop} {Q : Exit → Act → World → Prop} {x y : Operand} {b o' : Nat} {z : Int} {old : Value} (ho : o.op = .store 52 x y) (hx : a.eval x = .pointer (some ⟨b, o', none⟩)) (hy : a.eval y = .int .u8 z) (hc : w.cell? ⟨b, o', none⟩ = some old) (hf : w.frozen? ⟨b, o', none⟩ = false)
    (hK : K (a.put o.dst undef) (w.setCell ⟨b, o', none⟩ (.int .u8 z))) : Oper.wp Tryz.prog o a w K Q := by
  have h : (execOp a.eval o).run Tryz.prog w = .ok .skip (w.setCell ⟨b, o', none⟩ (.int .u8 z)) := by
    generalize a.eval = ev at hx hy
    unfold execOp
    simp only [ho, hx, hy]
    go_simp
  unfold Oper.wp
  rw [h]
  exact hK
set_option maxRecDepth 100000 in
theorem op_map {K : Act → World → Prop} {Q : Exit → Act → World → Prop} {t : TypeId} (ho : o.op = .makeMap t none) (hK : K (a.put o.dst (.map (some w.heap.size))) (w.alloc (.map #[] 0))) : Oper.wp Tryz.prog o a w K Q := by
  refine op_yield (w' := w.alloc (.map #[] 0)) (v := .map (some w.heap.size)) ?_ hK
  unfold execOp
  simp only [ho]
  go_simp
  rfl
set_option maxRecDepth 100000 in
theorem op_make {K : Act → World → Prop} {Q : Exit → Act → World → Prop} {t e : TypeId} {x y : Operand} {n size : Nat} (ho : o.op = .makeSlice t x y) (hx : a.eval x = .int .i64 (n : Int)) (hy : a.eval y = .int .i64 (n : Int)) (ht : Tryz.prog.underlying t = some (.slice e))
    (hi : (Tryz.prog.info? e).map (fun i => (i.size, decide (i.bytes ≤ 1000), i.zero.isSome)) = some (size, true, true)) (hn : n ≤ 100000) (hs : 0 < size)
    (hK : ∀ (cs : List Value) (w' : World), Blk w' w.heap.size e cs.toArray → cs.length = n * size → Mod no w w' → K (a.put o.dst (.slice (some ⟨w.heap.size, 0, none⟩) n n)) w') : Oper.wp Tryz.prog o a w K Q := by
  cases hi0 : Tryz.prog.info? e with
  | none => rw [hi0] at hi; cases hi
  | some i =>
    rw [hi0] at hi
    simp only [Option.map_some, Option.some.injEq, Prod.mk.injEq, decide_eq_true_eq] at hi
    obtain ⟨h1, h2, h3⟩ := hi
    obtain ⟨z, hz⟩ := Option.isSome_iff_exists.1 h3
    obtain ⟨w', hrun, hown, hg⟩ := run_make_full (P := Tryz.prog) w 0 t e i z size ht hi0 hz h1 .i64 .i64 n (by have := Nat.mul_le_mul h2 hn; omega) (by simp only [maxLen]; omega) (Nat.zero_le _)
    refine op_yield (w' := w') (v := .slice (some ⟨w.heap.size, 0, none⟩) n n) ?_ (hK (madeCells z.cells (n * size)).toList w' ?_ ?_ (Mod.of_grown hg (fun _ _ e => by cases e)))
    · unfold execOp
      simp only [ho, hx, hy, Sem.run_bind, hrun, Result.andThen_ok, Sem.run_pure]
    · rcases hown.2 with ⟨hv, _⟩ | ⟨g', cap, cur, hv, _, hb, hnc, _, hcs, h4⟩
      · cases hv
      · injection hv with hv h5 h6
        injection hv with hv
        injection hv with hv
        subst hv h6
        have hb : Blk w' w.heap.size e cur := hb
        have : cur = (madeCells z.cells (n * size)).toList.toArray := by
          apply Array.ext'
          rw [← h4, List.take_of_length_le (by simp; omega)]
        rw [← this]; exact hb
    · exact hown.1
end
set_option maxRecDepth 100000 in
theorem seg_info : (Tryz.prog.info? 57).map (fun i => (i.size, decide (i.bytes ≤ 1000), i.zero.isSome)) = some (6, true, true) := by kernel_rfl
set_option maxRecDepth 100000 in
theorem u8_infoB : (Tryz.prog.info? 5).map (fun i => (i.size, decide (i.bytes ≤ 1000), i.zero.isSome)) = some (1, true, true) := by kernel_rfl
noncomputable def empC : Code := Tryz.f11.body.getD .skip
noncomputable def e1C : Code := sR empC
noncomputable def e2C : Code := sR e1C
noncomputable def e3C : Code := sR e2C
/-- An arena of three segments. -/
def ArAt (w : World) (ar sg : Nat) : Prop := (∃ m1 m2 : Value, Blk w ar 61 #[.int .i64 3, .int .i64 64, .slice (some ⟨sg, 0, none⟩) 3 3, m1, m2]) ∧ ∃ cs : List Value, Blk w sg 57 cs.toArray ∧ cs.length = 18
theorem ArAt.mod_no {w w' : World} {ar sg : Nat} (h : ArAt w ar sg) (hm : Mod no w w') : ArAt w' ar sg := by
  obtain ⟨⟨m1, m2, h1⟩, cs, h2, h3⟩ := h
  exact ⟨⟨m1, m2, h1.mod hm (fun c => c)⟩, cs, h2.mod hm (fun c => c), h3⟩
theorem ArAt.set {w : World} {ar sg : Nat} (h : ArAt w ar sg) (j : Nat) (v : Value) : ArAt (w.setCell ⟨sg, j, none⟩ v) ar sg := by
  obtain ⟨⟨m1, m2, h1⟩, cs, h2, h3⟩ := h
  have hp := h2.put j v
  rw [List.setIfInBounds_toArray] at hp
  have hne : ar ≠ sg := fun e => by rw [e] at h1; exact absurd (h1.same h2).1 (by decide)
  exact ⟨⟨m1, m2, h1.far (p := ⟨sg, j, none⟩) hne v⟩, _, hp, by rw [List.length_set]; exact h3⟩
def EI (w0 : World) (c1 ar sg : Nat) (i : Value) (wr : World) : Prop := ∃ k : Nat, k ≤ 3 ∧ i = .int .i64 (k : Int) ∧ Mod no w0 wr ∧ Blk wr c1 30 #[.int .i64 3, .int .i64 64] ∧ ArAt wr ar sg
set_option maxRecDepth 100000 in
set_option maxHeartbeats 1000000 in
theorem e2_any {w0 w : World} {c1 ar sg : Nat} (hm : Mod no w0 w) (hc : Blk w c1 30 #[.int .i64 3, .int .i64 64]) (ha : ArAt w ar sg) (hs : w0.heap.size ≤ sg)
    (d0 d2 d4 d5 d6 d7 d8 d9 d10 d11 d12 d13 d14 d15 d16 d17 d18 d19 d20 d21 d22 d23 d24 d25 d26 d27 d28 d29 d30 d31 d32 : Value) (Q : Exit → Act → World → Prop)
    (hexit : ∀ (u2 u4 u13 u14 u15 u16 u17 u18 u19 u20 u21 u22 u23 u24 u25 u26 u27 u28 u29 u30 u31 u32 : Value) (w' : World), u2 = .pointer (some ⟨ar, 0, none⟩) → Mod no w0 w' → ArAt w' ar sg → Q .ret ⟨List.toArray (d0 :: (.pointer (some ⟨c1, 0, none⟩)) :: u2 :: (.pointer (some ⟨ar, 0, none⟩)) :: u4 :: d5 :: d6 :: d7 :: d8 :: d9 :: d10 :: d11 :: d12 :: u13 :: u14 :: u15 :: u16 :: u17 :: u18 :: u19 :: u20 :: u21 :: u22 :: u23 :: u24 :: u25 :: u26 :: u27 :: u28 :: u29 :: u30 :: u31 :: u32 :: []), []⟩ w') :
    Code.wp Tryz.prog e2C Q ⟨List.toArray (d0 :: (.pointer (some ⟨c1, 0, none⟩)) :: d2 :: (.pointer (some ⟨ar, 0, none⟩)) :: d4 :: d5 :: d6 :: d7 :: d8 :: d9 :: d10 :: d11 :: d12 :: d13 :: d14 :: d15 :: d16 :: d17 :: d18 :: d19 :: d20 :: d21 :: d22 :: d23 :: d24 :: d25 :: d26 :: d27 :: d28 :: d29 :: d30 :: d31 :: d32 :: []), []⟩ w := by
  have HLE := Lib.hid hexit
  have H0 := Lib.hid (And.intro hm (And.intro hc (And.intro ha hs)))
  obtain ⟨⟨m1, m2, h1⟩, _⟩ := ha
  have c2 := h1.cell 2
  simp at c2
  clear hexit hm hc hs h1
  show Code.wp Tryz.prog (Code.seq (sL e2C) e3C) _ _ _
  refine wp_seq_k fun K0 hK0 => ?_
  have HK0 := Lib.hid hK0
  clear hK0
  conv => arg 2; whnf
  go_wp2_with fail
  clear c2
  go_loopw [4, 18] (fun (u4 i : Value) (wr : World) => EI w0 c1 ar sg i wr) (fun _ i _ => 3 - (intOf i).toNat)
  case atStart => exact ⟨0, by omega, rfl, H0.out.1, H0.out.2.1, H0.out.2.2.1⟩
  case round =>
    obtain ⟨k, hk, rfl, M, hc, ha⟩ := hrel
    by_cases hkl : k < 3
    · have hj1 : (k : Int) < 3 := by omega
      have hw64 : wrap64 ((k : Int) + 1) = (k : Int) + 1 := IntWalk.wrap64_in _ (by omega)
      obtain ⟨⟨m3, m4, ha1⟩, cs, hb1, hcl⟩ := id ha
      have H1 := Lib.hid (And.intro M (And.intro hc (And.intro ha (show k < 3 from hkl))))
      have H2 := Lib.hid (And.intro ha1 (And.intro hb1 hcl))
      clear hk M hc ha ha1 hb1 hcl hkl
      go_wp2_with fail
      refine wp_only ?_
      refine wp_region_held_drew (S := fun w' => Blk w' c1 30 #[.int .i64 3, .int .i64 64] ∧ Blk w' ar 61 #[.int .i64 3, .int .i64 64, .slice (some ⟨sg, 0, none⟩) 3 3, m3, m4] ∧ (∃ cs : List Value, Blk w' sg 57 cs.toArray ∧ cs.length = 18) ∧ Mod no w0 w') (by kernel_rfl) ⟨H1.out.2.1.drew, H2.out.1.drew, ⟨cs, H2.out.2.1.drew, H2.out.2.2⟩, H1.out.1.drew⟩ (fun hHeld => ?_)
      refine takeD (i := 0) (d := some 21) (v := (.pointer (some ⟨ar, 0, none⟩))) rfl (by kernel_rfl) (by kernel_rfl) (by kernel_rfl) rfl (fun _ _ _ h => h) (Or.inl ⟨by kernel_rfl, fun w9 hw => y_move rfl rfl⟩) hHeld ?_
      simp only [Act.put, List.setIfInBounds_toArray, List.set_cons_zero, List.set_cons_succ]
      refine takeD (i := 1) (d := some 22) (v := (.pointer (some ⟨ar, 0, none⟩))) rfl (by kernel_rfl) (by kernel_rfl) (by kernel_rfl) rfl (fun _ _ _ h => h) (Or.inl ⟨by kernel_rfl, fun w9 hw => y_nil rfl rfl⟩) hHeld ?_
      simp only [Act.put, List.setIfInBounds_toArray, List.set_cons_zero, List.set_cons_succ]
      refine takeD (i := 2) (d := some 23) (v := (.pointer (some ⟨ar, 2, none⟩))) rfl (by kernel_rfl) (by kernel_rfl) (by kernel_rfl) rfl (fun _ _ _ h => h) (Or.inl ⟨by kernel_rfl, fun w9 hw => y_fld (j := 2) (o' := 0) rfl rfl (by decide)⟩) hHeld ?_
      simp only [Act.put, List.setIfInBounds_toArray, List.set_cons_zero, List.set_cons_succ]
      refine takeD (i := 3) (d := some 24) (v := (.slice (some ⟨sg, 0, none⟩) 3 3)) rfl (by kernel_rfl) (by kernel_rfl) (by kernel_rfl) rfl (fun _ _ _ h => h) (Or.inl ⟨by kernel_rfl, fun w9 hw => y_load rfl (.inr rfl) rfl (by rw [hw.2.1.cell]; rfl) rfl⟩) hHeld ?_
      simp only [Act.put, List.setIfInBounds_toArray, List.set_cons_zero, List.set_cons_succ]
      refine takeD (i := 4) (d := some 25) (v := (.int .i64 (k : Int))) rfl (by kernel_rfl) (by kernel_rfl) (by kernel_rfl) rfl (fun _ _ _ h => h) (Or.inl ⟨by kernel_rfl, fun w9 hw => y_move rfl rfl⟩) hHeld ?_
      simp only [Act.put, List.setIfInBounds_toArray, List.set_cons_zero, List.set_cons_succ]
      refine takeD (i := 5) (d := some 26) (v := (.pointer (some ⟨c1, 1, none⟩))) rfl (by kernel_rfl) (by kernel_rfl) (by kernel_rfl) rfl (fun _ _ _ h => h) (Or.inl ⟨by kernel_rfl, fun w9 hw => y_fld (j := 1) (o' := 0) rfl rfl (by decide)⟩) hHeld ?_
      simp only [Act.put, List.setIfInBounds_toArray, List.set_cons_zero, List.set_cons_succ]
      refine takeD (i := 6) (d := some 27) (v := (.int .i64 64)) rfl (by kernel_rfl) (by kernel_rfl) (by kernel_rfl) rfl (fun _ _ _ h => h) (Or.inl ⟨by kernel_rfl, fun w9 hw => y_load rfl (.inl rfl) rfl (by rw [hw.1.cell]; rfl) rfl⟩) hHeld ?_
      simp only [Act.put, List.setIfInBounds_toArray, List.set_cons_zero, List.set_cons_succ]
      refine readyD (i := 7) (d := some 28) rfl (by kernel_rfl) rfl (by kernel_rfl) fun K hK => ?_
      refine op_make (n := 64) rfl rfl rfl Tryz.underlying55 u8_infoB (by decide) (by decide) fun cs2 w2 hb2 hl2 m2 => ?_
      refine hK _ _ ⟨hHeld.1.mod m2 (fun c => c), hHeld.2.1.mod m2 (fun c => c), (by obtain ⟨cs', h1, h2⟩ := hHeld.2.2.1; exact ⟨cs', h1.mod m2 (fun c => c), h2⟩), hHeld.2.2.2.and_then m2⟩ fun hHeld2 => ?_
      clear hK K hHeld hb2 hl2 m2
      have hHeld := hHeld2
      clear hHeld2
      simp only [Act.put, List.setIfInBounds_toArray, List.set_cons_zero, List.set_cons_succ]
      refine takeD (i := 8) (d := some 29) (v := (.pointer (some ⟨sg, k * 6, none⟩))) rfl (by kernel_rfl) (by kernel_rfl) (by kernel_rfl) rfl (fun _ _ _ h => h) (Or.inl ⟨by kernel_rfl, fun w9 hw => y_idx rfl rfl rfl H1.out.2.2.2⟩) hHeld ?_
      simp only [Act.put, List.setIfInBounds_toArray, List.set_cons_zero, List.set_cons_succ]
      refine takeD (i := 9) (d := some 30) (v := (.pointer (some ⟨sg, k * 6 + 5, none⟩))) rfl (by kernel_rfl) (by kernel_rfl) (by kernel_rfl) rfl (fun _ _ _ h => h) (Or.inl ⟨by kernel_rfl, fun w9 hw => y_fld (j := 5) (o' := k * 6) rfl rfl (by decide)⟩) hHeld ?_
      simp only [Act.put, List.setIfInBounds_toArray, List.set_cons_zero, List.set_cons_succ]
      refine readyD (i := 10) (d := none) rfl (by kernel_rfl) rfl (by kernel_rfl) fun K hK => ?_
      obtain ⟨cs3, hb3, hl3⟩ := hHeld.2.2.1
      obtain ⟨old, hold⟩ : ∃ old, cs3[k * 6 + 5]? = some old := ⟨_, List.getElem?_eq_getElem (by have := H1.out.2.2.2; omega)⟩
      have cg : w2.cell? ⟨sg, k * 6 + 5, none⟩ = some old := by rw [hb3.cell, List.getElem?_toArray]; exact hold
      have fg := hb3.free (k * 6 + 5)
      have ha3 := (show ArAt w2 ar sg from ⟨⟨m3, m4, hHeld.2.1⟩, cs3, hb3, hl3⟩).set (k * 6 + 5) (.slice (some ⟨wr.drew.heap.size, 0, none⟩) 64 64)
      have hsz : w0.heap.size ≤ sg := H0.out.2.2.2
      have hcs : c1 ≠ sg := fun e => by have h := hHeld.1; rw [e] at h; exact absurd (h.same hb3).1 (by decide)
      have hm3 : Mod no w0 (w2.setCell ⟨sg, k * 6 + 5, none⟩ (.slice (some ⟨wr.drew.heap.size, 0, none⟩) 64 64)) := hHeld.2.2.2.set (p := ⟨sg, k * 6 + 5, none⟩) (fun h => absurd h (by show ¬ sg < _; omega)) _
      have hc3 := hHeld.1.far (p := ⟨sg, k * 6 + 5, none⟩) hcs (.slice (some ⟨wr.drew.heap.size, 0, none⟩) 64 64)
      refine op_storeB rfl rfl rfl cg fg ?_
      refine hK _ _ ⟨hc3, hHeld.2.1.far (p := ⟨sg, k * 6 + 5, none⟩) (fun e => by have h := hHeld.2.1; rw [e] at h; exact absurd (h.same hb3).1 (by decide)) _, ha3.2, hm3⟩ fun _ => ?_
      have H3 := Lib.hid (And.intro hm3 (And.intro hc3 ha3))
      clear hK K hHeld hm3 hc3 ha3 cg fg hb3 hl3 hold hcs hsz
      simp only [Act.put, List.setIfInBounds_toArray, List.set_cons_zero, List.set_cons_succ]
      refine wpAnyH_done (by kernel_rfl) ?_ _
      refine ret_out ?_
      generalize w2.setCell ⟨sg, k * 6 + 5, none⟩ (.slice (some ⟨wr.drew.heap.size, 0, none⟩) 64 64) = w3 at *
      go_wp2_with fail
      go_roundw
      case rel => exact ⟨k + 1, by have := H1.out.2.2.2; omega, by go_num, H3.out⟩
      case measure =>
        try rw [hw64]
        clear hw64
        have := H1.out.2.2.2
        show 3 - ((k : Int) + 1).toNat < 3 - ((k : Int)).toNat
        omega
    · obtain rfl : k = 3 := by omega
      have hj1 : ¬ ((3 : Nat) : Int) < 3 := by omega
      have H1 := Lib.hid (And.intro M ha)
      clear hk M hc ha hkl
      go_wp2_with fail
      refine HK0.out _ _ ?_
      clear HK0
      conv => arg 2; whnf
      go_wp2_with fail
      exact HLE.out _ _ _ _ _ _ _ _ _ _ _ _ _ _ _ _ _ _ _ _ _ _ _ rfl H1.out.1 H1.out.2

end Go.Proofs.YtcpflggjolkjgaaGreatDoor.MN
