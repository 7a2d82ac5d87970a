/- IndexExact: the texts TbE TbF of this seat, one behind the other. -/
import Derived.Test.YtknbehjhaaidoaaM06
import Derived.Test.YtknbehjhaaidoaaM04
import Derived.Laws.ResultCell
/- A table in memory: made, seek, Len. -/
namespace Go.Proofs.Ytknbehjhaaidoaa.TB
open Go.RowKit Mem HD
set_option linter.unusedVariables false
set_option linter.unusedSimpArgs false

/-! ### Calls within a drawn region -/
section
variable {a : Act} {o : Oper} {w : World} {K : Act → World → Prop} {Q : Exit → Act → World → Prop} {R : Ending → World → Prop} {N : FuncId}
theorem op_c1 (hN : ∀ vs w, (callFunc N vs).run Try.prog w = .ok (.enter N vs) w) {x : Operand} {t : TypeId} {v : Value} (ho : o.op = .call { callee := .value (.func N), args := #[x], argTypes := #[t] }) (hx : a.eval x = v)
    (hC : Calls Try.prog N #[v] w R) (hR : ∀ e w', R e w' → ∃ u, e = .returned u ∧ K (a.put o.dst u) w') : Oper.wp Try.prog o a w K Q := by
  have h : (execOp a.eval o).run Try.prog w = .ok (.enter N #[v]) w := by
    have hf : a.eval (.func N) = .func (.func N) #[] #[] := rfl
    generalize a.eval = ev at hx hf
    unfold execOp
    simp only [ho]
    go_simp
  unfold Oper.wp
  rw [h, Oper.upon_enter]
  refine hC.mono fun e w' hr => ?_
  obtain ⟨u, rfl, hk⟩ := hR e w' hr
  exact hk
theorem op_v1 (hN : ∀ vs w, (callFunc N vs).run Try.prog w = .ok (.enter N vs) w) {f x : Operand} {t : TypeId} {v : Value} (ho : o.op = .call { callee := .value f, args := #[x], argTypes := #[t] }) (hf : a.eval f = .func (.func N) #[] #[]) (hx : a.eval x = v)
    (hC : Calls Try.prog N #[v] w R) (hR : ∀ e w', R e w' → ∃ u, e = .returned u ∧ K (a.put o.dst u) w') : Oper.wp Try.prog o a w K Q := by
  have h : (execOp a.eval o).run Try.prog w = .ok (.enter N #[v]) w := by
    generalize a.eval = ev at hx hf
    unfold execOp
    simp only [ho]
    go_simp
  unfold Oper.wp
  rw [h, Oper.upon_enter]
  refine hC.mono fun e w' hr => ?_
  obtain ⟨u, rfl, hk⟩ := hR e w' hr
  exact hk
theorem op_c2 (hN : ∀ vs w, (callFunc N vs).run Try.prog w = .ok (.enter N vs) w) {x y : Operand} {t s : TypeId} {v u1 : Value} (ho : o.op = .call { callee := .value (.func N), args := #[x, y], argTypes := #[t, s] }) (hx : a.eval x = v) (hy : a.eval y = u1)
    (hC : Calls Try.prog N #[v, u1] w R) (hR : ∀ e w', R e w' → ∃ u, e = .returned u ∧ K (a.put o.dst u) w') : Oper.wp Try.prog o a w K Q := by
  have h : (execOp a.eval o).run Try.prog w = .ok (.enter N #[v, u1]) w := by
    have hf : a.eval (.func N) = .func (.func N) #[] #[] := rfl
    generalize a.eval = ev at hx hy hf
    unfold execOp
    simp only [ho]
    go_simp
  unfold Oper.wp
  rw [h, Oper.upon_enter]
  refine hC.mono fun e w' hr => ?_
  obtain ⟨u, rfl, hk⟩ := hR e w' hr
  exact hk
theorem op_c3 (hN : ∀ vs w, (callFunc N vs).run Try.prog w = .ok (.enter N vs) w) {x y z : Operand} {t s r : TypeId} {v u1 u2 : Value} (ho : o.op = .call { callee := .value (.func N), args := #[x, y, z], argTypes := #[t, s, r] }) (hx : a.eval x = v) (hy : a.eval y = u1) (hz : a.eval z = u2)
    (hC : Calls Try.prog N #[v, u1, u2] w R) (hR : ∀ e w', R e w' → ∃ u, e = .returned u ∧ K (a.put o.dst u) w') : Oper.wp Try.prog o a w K Q := by
  have h : (execOp a.eval o).run Try.prog w = .ok (.enter N #[v, u1, u2]) w := by
    have hf : a.eval (.func N) = .func (.func N) #[] #[] := rfl
    generalize a.eval = ev at hx hy hz hf
    unfold execOp
    simp only [ho]
    go_simp
  unfold Oper.wp
  rw [h, Oper.upon_enter]
  refine hC.mono fun e w' hr => ?_
  obtain ⟨u, rfl, hk⟩ := hR e w' hr
  exact hk
theorem op_c4 (hN : ∀ vs w, (callFunc N vs).run Try.prog w = .ok (.enter N vs) w) {x y z q : Operand} {t s r p : TypeId} {v u1 u2 u3 : Value} (ho : o.op = .call { callee := .value (.func N), args := #[x, y, z, q], argTypes := #[t, s, r, p] }) (hx : a.eval x = v) (hy : a.eval y = u1) (hz : a.eval z = u2) (hq : a.eval q = u3)
    (hC : Calls Try.prog N #[v, u1, u2, u3] w R) (hR : ∀ e w', R e w' → ∃ u, e = .returned u ∧ K (a.put o.dst u) w') : Oper.wp Try.prog o a w K Q := by
  have h : (execOp a.eval o).run Try.prog w = .ok (.enter N #[v, u1, u2, u3]) w := by
    have hf : a.eval (.func N) = .func (.func N) #[] #[] := rfl
    generalize a.eval = ev at hx hy hz hq hf
    unfold execOp
    simp only [ho]
    go_simp
  unfold Oper.wp
  rw [h, Oper.upon_enter]
  refine hC.mono fun e w' hr => ?_
  obtain ⟨u, rfl, hk⟩ := hR e w' hr
  exact hk
theorem y_ext {x : Operand} {i : Nat} {vs : Array Value} {v : Value} (ho : o.op = .extract x i) (hx : a.eval x = .tuple vs) (hi : vs[i]? = some v) : (execOp a.eval o).run Try.prog w = .ok (.value v) w := by
  generalize a.eval = ev at hx
  unfold execOp
  simp only [ho, hx]
  go_simp
end

/-! ### A table -/
def hashV : Value := .func (.func 51) #[] #[]
/-- The elder array, beside the younger one at ya, ys. -/
def OldAt (w : World) (R : Nat → Prop) (ya ys : Nat) (po : Option Addr) : Option (List Sl) → Prop
  | none => po = none
  | some l => ∃ oa os, po = some ⟨oa, 0, none⟩ ∧ ArrAt w oa os l (ents l).length (tombs l) ∧ R oa ∧ R os ∧ oa ≠ ya ∧ os ≠ ys
/-- A table at block g; all its blocks are in R. -/
structure TabM (w : World) (g : Nat) (R : Nat → Prop) (t : Tab Key Ent) (ya ys : Nat) (po : Option Addr) : Prop where
  b : Blk w g 127 #[hashV, .pointer (some ⟨ya, 0, none⟩), .pointer po, .int .i64 (t.m : Int)]
  y : ArrAt w ya ys t.y (ents t.y).length (tombs t.y)
  o : OldAt w R ya ys po t.o
  rg : R g
  ry : R ya
  rs : R ys
def TabAt (w : World) (g : Nat) (R : Nat → Prop) (t : Tab Key Ent) : Prop := ∃ ya ys po, TabM w g R t ya ys po
section
variable {S R R' : Nat → Prop} {w w' : World} {g ya ys : Nat} {t : Tab Key Ent} {po : Option Addr}
theorem OldAt.mod {o : Option (List Sl)} (h : OldAt w R ya ys po o) (hm : Mod S w w') (hs : ∀ k, R k → ¬ S k) : OldAt w' R ya ys po o := by
  cases o with
  | none => exact h
  | some l =>
    obtain ⟨oa, os, h1, h2, h3, h4, h5⟩ := h
    exact ⟨oa, os, h1, h2.mod hm (hs _ h3) (hs _ h4), h3, h4, h5⟩
theorem OldAt.mono {o : Option (List Sl)} (h : OldAt w R ya ys po o) (hr : ∀ k, R k → R' k) : OldAt w R' ya ys po o := by
  cases o with
  | none => exact h
  | some l =>
    obtain ⟨oa, os, h1, h2, h3, h4, h5⟩ := h
    exact ⟨oa, os, h1, h2, hr _ h3, hr _ h4, h5⟩
theorem TabM.mod (h : TabM w g R t ya ys po) (hm : Mod S w w') (hs : ∀ k, R k → ¬ S k) : TabM w' g R t ya ys po := ⟨h.b.mod hm (hs _ h.rg), h.y.mod hm (hs _ h.ry) (hs _ h.rs), h.o.mod hm hs, h.rg, h.ry, h.rs⟩
theorem TabM.drew (h : TabM w g R t ya ys po) : TabM w.drew g R t ya ys po := h.mod ((Mod.refl no w).drew) (fun _ _ c => c)
theorem TabM.mono (h : TabM w g R t ya ys po) (hr : ∀ k, R k → R' k) : TabM w g R' t ya ys po := ⟨h.b, h.y, h.o.mono hr, hr _ h.rg, hr _ h.ry, hr _ h.rs⟩
theorem TabAt.mod (h : TabAt w g R t) (hm : Mod S w w') (hs : ∀ k, R k → ¬ S k) : TabAt w' g R t := by
  obtain ⟨ya, ys, po, h⟩ := h
  exact ⟨ya, ys, po, h.mod hm hs⟩
theorem TabAt.mono (h : TabAt w g R t) (hr : ∀ k, R k → R' k) : TabAt w g R' t := by
  obtain ⟨ya, ys, po, h⟩ := h
  exact ⟨ya, ys, po, h.mono hr⟩
end
set_option maxRecDepth 100000 in
theorem made_any {w : World} {g : Nat} {R : Nat → Prop} {t : Tab Key Ent} (h : TabAt w g R t) : Calls Try.prog 85 #[.pointer (some ⟨g, 0, none⟩)] w fun e w' => e = .returned (.bool true) ∧ w' = w := by
  obtain ⟨ya, ys, po, h⟩ := h
  have c1 := h.b.cell 1
  clear h
  go_enter Try.func85, Try.ntmps85
  go_wp2_with fail
  go_ret
  exact ⟨rfl, rfl⟩
set_option maxRecDepth 100000 in
set_option maxHeartbeats 4000000 in
theorem seek_any {w : World} {g ya ys h : Nat} {R : Nat → Prop} {t : Tab Key Ent} {po : Option Addr} (ht : TabM w g R t ya ys po) (hp : Pow t.y.length) (hpo : ∀ l, t.o = some l → Pow l.length) (hh : h < 18446744073709551616) (k : Key) :
    Calls Try.prog 87 #[.pointer (some ⟨g, 0, none⟩), .int .u64 (h : Int), .agg k.L.toArray] w fun e w' => Mod no w w' ∧ ∃ d : Int,
      ((find t.y h k).1 ≠ none ∨ t.o = none → e = .returned (.tuple #[.pointer (some ⟨ya, 0, none⟩), .int .i64 (optI (find t.y h k).1), .int .i64 d])) ∧
      (∀ l, (find t.y h k).1 = none → t.o = some l → e = .returned (.tuple #[.pointer po, .int .i64 (optI (find l h k).1), .int .i64 d])) := by
  obtain ⟨w1, hw1⟩ : ∃ w1, w1 = w.alloc (.cells k.L.toArray 39) := ⟨_, rfl⟩
  have hm1 : Mod no w w1 := by rw [hw1]; exact (Mod.refl no w).alloc _
  have hk1 : w1.rangeAt w.heap.size 0 k.L := by rw [hw1]; exact blk_range (Blk.new w 39 k.L.toArray)
  have ht1 := ht.mod hm1 (fun _ _ c => c)
  obtain ⟨gk, hgk⟩ : ∃ gk, gk = w.heap.size := ⟨_, rfl⟩
  rw [← hgk] at hk1
  have HA := Lib.hid (And.intro ht1 (And.intro hm1 hk1))
  have HP := Lib.hid (And.intro hp (And.intro hpo hh))
  have HW := Lib.hid (And.intro hw1 hgk)
  obtain ⟨r1, hr1⟩ : ∃ r1, r1 = find t.y h k := ⟨_, rfl⟩
  have HR := Lib.hid hr1
  rw [← hr1]
  obtain ⟨at1, fr1, d1⟩ := r1
  clear ht hp hpo hh hm1 hk1 ht1 hw1 hgk hr1
  go_enter Try.func87, Try.ntmps87
  go_upto_region 1 with fail
  rw [← HW.out.1, ← HW.out.2]
  refine wp_region_held_drew (S := fun w' => TabM w' g R t ya ys po ∧ w'.rangeAt gk 0 k.L) (by kernel_rfl) ⟨HA.out.1.drew, HA.out.2.2⟩ (fun hHeld => ?_)
  refine takeD (i := 0) (d := some 12) (v := (.pointer (some ⟨g, 0, none⟩))) rfl (by kernel_rfl) (by kernel_rfl) (by kernel_rfl) rfl (fun _ _ _ h => h) (Or.inl ⟨by kernel_rfl, fun w9 hw => y_move rfl rfl⟩) hHeld ?_
  simp only [Act.put, List.setIfInBounds_toArray, List.set_cons_zero, List.set_cons_succ]
  refine takeD (i := 1) (d := some 13) (v := (.pointer (some ⟨g, 0, none⟩))) rfl (by kernel_rfl) (by kernel_rfl) (by kernel_rfl) rfl (fun _ _ _ h => h) (Or.inl ⟨by kernel_rfl, fun w9 hw => y_nil rfl rfl⟩) hHeld ?_
  simp only [Act.put, List.setIfInBounds_toArray, List.set_cons_zero, List.set_cons_succ]
  refine takeD (i := 2) (d := some 14) (v := (.pointer (some ⟨g, 1, none⟩))) rfl (by kernel_rfl) (by kernel_rfl) (by kernel_rfl) rfl (fun _ _ _ h => h) (Or.inl ⟨by kernel_rfl, fun w9 hw => y_ft (by decide) rfl rfl⟩) hHeld ?_
  simp only [Act.put, List.setIfInBounds_toArray, List.set_cons_zero, List.set_cons_succ]
  refine takeD (i := 3) (d := some 15) (v := (.pointer (some ⟨ya, 0, none⟩))) rfl (by kernel_rfl) (by kernel_rfl) (by kernel_rfl) rfl (fun _ _ _ h => h) (Or.inl ⟨by kernel_rfl, fun w9 hw => y_one rfl (by decide) rfl (hw.1.b.cell 1) rfl⟩) hHeld ?_
  simp only [Act.put, List.setIfInBounds_toArray, List.set_cons_zero, List.set_cons_succ]
  refine takeD (i := 4) (d := some 16) (v := (.int .u64 (h : Int))) rfl (by kernel_rfl) (by kernel_rfl) (by kernel_rfl) rfl (fun _ _ _ h => h) (Or.inl ⟨by kernel_rfl, fun w9 hw => y_move rfl rfl⟩) hHeld ?_
  simp only [Act.put, List.setIfInBounds_toArray, List.set_cons_zero, List.set_cons_succ]
  refine takeD (i := 5) (d := some 17) (v := (.agg k.L.toArray)) rfl (by kernel_rfl) (by kernel_rfl) (by kernel_rfl) rfl (fun _ _ _ h => h) (Or.inl ⟨by kernel_rfl, fun w9 hw => y_key rfl rfl hw.2⟩) hHeld ?_
  simp only [Act.put, List.setIfInBounds_toArray, List.set_cons_zero, List.set_cons_succ]
  refine readyD (i := 6) (d := some 18) rfl (by kernel_rfl) rfl (by kernel_rfl) fun K hK => ?_
  refine op_c3 (fun _ _ => rfl) rfl rfl rfl rfl (find_any hHeld.1.y HP.out.1 HP.out.2.2 k) ?_
  rintro e w2 ⟨rfl, hm2⟩
  rw [← HR.out]
  have H2 := Lib.hid (show Mod no w w2 from HA.out.2.1.drew.and_then hm2)
  refine ⟨_, rfl, hK _ _ ⟨hHeld.1.mod hm2 (fun _ _ c => c), range_mod hHeld.2 hm2 (fun c => c)⟩ fun hHeld9 => ?_⟩
  clear hK K hHeld
  have hHeld := hHeld9
  clear hHeld9
  simp only [Act.put, List.setIfInBounds_toArray, List.set_cons_zero, List.set_cons_succ]
  refine takeD (i := 7) (d := some 11) (v := (.tuple #[.int .i64 (optI at1), .int .i64 (optI fr1), .int .i64 (d1 : Int)])) rfl (by kernel_rfl) (by kernel_rfl) (by kernel_rfl) rfl (fun _ _ _ h => h) (Or.inl ⟨by kernel_rfl, fun w9 hw => y_move rfl rfl⟩) hHeld ?_
  simp only [Act.put, List.setIfInBounds_toArray, List.set_cons_zero, List.set_cons_succ]
  refine takeD (i := 8) (d := some 19) (v := (.int .i64 (optI at1))) rfl (by kernel_rfl) (by kernel_rfl) (by kernel_rfl) rfl (fun _ _ _ h => h) (Or.inl ⟨by kernel_rfl, fun w9 hw => y_ext rfl rfl rfl⟩) hHeld ?_
  simp only [Act.put, List.setIfInBounds_toArray, List.set_cons_zero, List.set_cons_succ]
  refine takeD (i := 9) (d := some 20) (v := (.int .i64 (optI fr1))) rfl (by kernel_rfl) (by kernel_rfl) (by kernel_rfl) rfl (fun _ _ _ h => h) (Or.inl ⟨by kernel_rfl, fun w9 hw => y_ext rfl rfl rfl⟩) hHeld ?_
  simp only [Act.put, List.setIfInBounds_toArray, List.set_cons_zero, List.set_cons_succ]
  refine takeD (i := 10) (d := some 21) (v := (.int .i64 (d1 : Int))) rfl (by kernel_rfl) (by kernel_rfl) (by kernel_rfl) rfl (fun _ _ _ h => h) (Or.inl ⟨by kernel_rfl, fun w9 hw => y_ext rfl rfl rfl⟩) hHeld ?_
  simp only [Act.put, List.setIfInBounds_toArray, List.set_cons_zero, List.set_cons_succ]
  refine takeD (i := 11) (d := some 7) (v := (.int .i64 (optI at1))) rfl (by kernel_rfl) (by kernel_rfl) (by kernel_rfl) rfl (fun _ _ _ h => h) (Or.inl ⟨by kernel_rfl, fun w9 hw => y_assign rfl rfl⟩) hHeld ?_
  simp only [Act.put, List.setIfInBounds_toArray, List.set_cons_zero, List.set_cons_succ]
  refine takeD (i := 12) (d := some 8) (v := (.int .i64 (d1 : Int))) rfl (by kernel_rfl) (by kernel_rfl) (by kernel_rfl) rfl (fun _ _ _ h => h) (Or.inl ⟨by kernel_rfl, fun w9 hw => y_assign rfl rfl⟩) hHeld ?_
  simp only [Act.put, List.setIfInBounds_toArray, List.set_cons_zero, List.set_cons_succ]
  refine wpAnyH_done (by kernel_rfl) ?_ _
  have HT := Lib.hid hHeld.1
  have HK := Lib.hid hHeld.2
  have c1 := hHeld.1.b.cell 1
  have c2 := hHeld.1.b.cell 2
  clear hHeld
  obtain ⟨av, hav⟩ : ∃ av, av = optI at1 := ⟨_, rfl⟩
  rw [← hav]
  have HV := Lib.hid hav
  clear hav
  have hcase : (at1 ≠ none ∧ ¬ av < 0) ∨ (at1 = none ∧ av < 0 ∧ t.o = none ∧ po = none) ∨ (at1 = none ∧ av < 0 ∧ ∃ l oa os, t.o = some l ∧ po = some ⟨oa, 0, none⟩ ∧ ArrAt w2 oa os l (ents l).length (tombs l)) := by
    have ho := HT.out.o
    cases at1 with
    | some n => exact .inl ⟨by simp, by rw [HV.out]; show ¬ (n : Int) < 0; omega⟩
    | none =>
      refine .inr ?_
      have h1 : av < 0 := by rw [HV.out]; decide
      cases hto : t.o with
      | none => rw [hto] at ho; exact .inl ⟨rfl, h1, rfl, ho⟩
      | some l =>
        rw [hto] at ho
        obtain ⟨oa, os, h2, h3, _⟩ := ho
        exact .inr ⟨rfl, h1, l, oa, os, rfl, h2, h3⟩
  rcases hcase with ⟨hn, h1⟩ | ⟨rfl, h1, hto, rfl⟩ | ⟨rfl, h1, l, oa, os, hto, rfl, ha⟩
  · have HN := Lib.hid hn
    clear hn
    go_wp2_with fail
    refine bodyPost_ret (v := .tuple #[.pointer (some ⟨ya, 0, none⟩), .int .i64 av, .int .i64 (d1 : Int)]) (by simp [results, Try.results87, go_sem]) rfl ⟨H2.out, (d1 : Int), fun _ => by rw [HV.out], fun l hl => absurd hl HN.out⟩
  · have HN := Lib.hid hto
    clear hto
    go_wp2_with fail
    refine bodyPost_ret (v := .tuple #[.pointer (some ⟨ya, 0, none⟩), .int .i64 av, .int .i64 (d1 : Int)]) (by simp [results, Try.results87, go_sem]) rfl ⟨H2.out, (d1 : Int), fun _ => by rw [HV.out], fun l hl => by rw [HN.out] at hl; cases hl⟩
  · have HN := Lib.hid hto
    obtain ⟨r2, hr2⟩ : ∃ r2, r2 = find l h k := ⟨_, rfl⟩
    have HR2 := Lib.hid hr2
    obtain ⟨at2, fr2, d2⟩ := r2
    have HO := Lib.hid ha
    clear hto hr2 ha
    go_upto_region 4 with fail
    refine wp_region_held_drew (S := fun w' => TabM w' g R t ya ys (some ⟨oa, 0, none⟩) ∧ w'.rangeAt gk 0 k.L ∧ ArrAt w' oa os l (ents l).length (tombs l)) (by kernel_rfl) ⟨HT.out.drew, HK.out, ⟨HO.out.a, HO.out.s⟩⟩ (fun hHeld => ?_)
    refine takeD (i := 0) (d := some 38) (v := (.pointer (some ⟨g, 0, none⟩))) rfl (by kernel_rfl) (by kernel_rfl) (by kernel_rfl) rfl (fun _ _ _ h => h) (Or.inl ⟨by kernel_rfl, fun w9 hw => y_move rfl rfl⟩) hHeld ?_
    simp only [Act.put, List.setIfInBounds_toArray, List.set_cons_zero, List.set_cons_succ]
    refine takeD (i := 1) (d := some 39) (v := (.pointer (some ⟨g, 0, none⟩))) rfl (by kernel_rfl) (by kernel_rfl) (by kernel_rfl) rfl (fun _ _ _ h => h) (Or.inl ⟨by kernel_rfl, fun w9 hw => y_nil rfl rfl⟩) hHeld ?_
    simp only [Act.put, List.setIfInBounds_toArray, List.set_cons_zero, List.set_cons_succ]
    refine takeD (i := 2) (d := some 40) (v := (.pointer (some ⟨g, 2, none⟩))) rfl (by kernel_rfl) (by kernel_rfl) (by kernel_rfl) rfl (fun _ _ _ h => h) (Or.inl ⟨by kernel_rfl, fun w9 hw => y_ft (by decide) rfl rfl⟩) hHeld ?_
    simp only [Act.put, List.setIfInBounds_toArray, List.set_cons_zero, List.set_cons_succ]
    refine takeD (i := 3) (d := some 41) (v := (.pointer (some ⟨oa, 0, none⟩))) rfl (by kernel_rfl) (by kernel_rfl) (by kernel_rfl) rfl (fun _ _ _ h => h) (Or.inl ⟨by kernel_rfl, fun w9 hw => y_one rfl (by decide) rfl (hw.1.b.cell 2) rfl⟩) hHeld ?_
    simp only [Act.put, List.setIfInBounds_toArray, List.set_cons_zero, List.set_cons_succ]
    refine takeD (i := 4) (d := some 42) (v := (.int .u64 (h : Int))) rfl (by kernel_rfl) (by kernel_rfl) (by kernel_rfl) rfl (fun _ _ _ h => h) (Or.inl ⟨by kernel_rfl, fun w9 hw => y_move rfl rfl⟩) hHeld ?_
    simp only [Act.put, List.setIfInBounds_toArray, List.set_cons_zero, List.set_cons_succ]
    refine takeD (i := 5) (d := some 43) (v := (.agg k.L.toArray)) rfl (by kernel_rfl) (by kernel_rfl) (by kernel_rfl) rfl (fun _ _ _ h => h) (Or.inl ⟨by kernel_rfl, fun w9 hw => y_key rfl rfl hw.2.1⟩) hHeld ?_
    simp only [Act.put, List.setIfInBounds_toArray, List.set_cons_zero, List.set_cons_succ]
    refine readyD (i := 6) (d := some 44) rfl (by kernel_rfl) rfl (by kernel_rfl) fun K hK => ?_
    refine op_c3 (fun _ _ => rfl) rfl rfl rfl rfl (find_any hHeld.2.2 (HP.out.2.1 l HN.out) HP.out.2.2 k) ?_
    rintro e w3 ⟨rfl, hm3⟩
    rw [← HR2.out]
    have H3 := Lib.hid (show Mod no w w3 from H2.out.drew.and_then hm3)
    refine ⟨_, rfl, hK _ _ ⟨hHeld.1.mod hm3 (fun _ _ c => c), range_mod hHeld.2.1 hm3 (fun c => c), hHeld.2.2.mod hm3 (fun c => c) (fun c => c)⟩ fun hHeld9 => ?_⟩
    clear hK K hHeld
    have hHeld := hHeld9
    clear hHeld9
    simp only [Act.put, List.setIfInBounds_toArray, List.set_cons_zero, List.set_cons_succ]
    refine takeD (i := 7) (d := some 37) (v := (.tuple #[.int .i64 (optI at2), .int .i64 (optI fr2), .int .i64 (d2 : Int)])) rfl (by kernel_rfl) (by kernel_rfl) (by kernel_rfl) rfl (fun _ _ _ h => h) (Or.inl ⟨by kernel_rfl, fun w9 hw => y_move rfl rfl⟩) hHeld ?_
    simp only [Act.put, List.setIfInBounds_toArray, List.set_cons_zero, List.set_cons_succ]
    refine takeD (i := 8) (d := some 45) (v := (.int .i64 (optI at2))) rfl (by kernel_rfl) (by kernel_rfl) (by kernel_rfl) rfl (fun _ _ _ h => h) (Or.inl ⟨by kernel_rfl, fun w9 hw => y_ext rfl rfl rfl⟩) hHeld ?_
    simp only [Act.put, List.setIfInBounds_toArray, List.set_cons_zero, List.set_cons_succ]
    refine takeD (i := 9) (d := some 46) (v := (.int .i64 (optI fr2))) rfl (by kernel_rfl) (by kernel_rfl) (by kernel_rfl) rfl (fun _ _ _ h => h) (Or.inl ⟨by kernel_rfl, fun w9 hw => y_ext rfl rfl rfl⟩) hHeld ?_
    simp only [Act.put, List.setIfInBounds_toArray, List.set_cons_zero, List.set_cons_succ]
    refine takeD (i := 10) (d := some 47) (v := (.int .i64 (d2 : Int))) rfl (by kernel_rfl) (by kernel_rfl) (by kernel_rfl) rfl (fun _ _ _ h => h) (Or.inl ⟨by kernel_rfl, fun w9 hw => y_ext rfl rfl rfl⟩) hHeld ?_
    simp only [Act.put, List.setIfInBounds_toArray, List.set_cons_zero, List.set_cons_succ]
    refine takeD (i := 11) (d := some 7) (v := (.int .i64 (optI at2))) rfl (by kernel_rfl) (by kernel_rfl) (by kernel_rfl) rfl (fun _ _ _ h => h) (Or.inl ⟨by kernel_rfl, fun w9 hw => y_assign rfl rfl⟩) hHeld ?_
    simp only [Act.put, List.setIfInBounds_toArray, List.set_cons_zero, List.set_cons_succ]
    refine takeD (i := 12) (d := some 9) (v := (.int .i64 (optI fr2))) rfl (by kernel_rfl) (by kernel_rfl) (by kernel_rfl) rfl (fun _ _ _ h => h) (Or.inl ⟨by kernel_rfl, fun w9 hw => y_assign rfl rfl⟩) hHeld ?_
    simp only [Act.put, List.setIfInBounds_toArray, List.set_cons_zero, List.set_cons_succ]
    refine takeD (i := 13) (d := some 10) (v := (.int .i64 (d2 : Int))) rfl (by kernel_rfl) (by kernel_rfl) (by kernel_rfl) rfl (fun _ _ _ h => h) (Or.inl ⟨by kernel_rfl, fun w9 hw => y_assign rfl rfl⟩) hHeld ?_
    simp only [Act.put, List.setIfInBounds_toArray, List.set_cons_zero, List.set_cons_succ]
    refine wpAnyH_done (by kernel_rfl) ?_ _
    obtain ⟨z, hz⟩ : ∃ z, z = optI at2 := ⟨_, rfl⟩
    rw [← hz]
    have HZ := Lib.hid hz
    have c2' := hHeld.1.b.cell 2
    clear hz hHeld c1 c2 h1
    go_wp2_with fail
    refine bodyPost_ret (v := .tuple #[.pointer (some ⟨oa, 0, none⟩), .int .i64 z, .int .i64 (wrap64 ((d1 : Int) + (d2 : Int)))]) (by simp [results, Try.results87, go_sem]) rfl ⟨H3.out, wrap64 ((d1 : Int) + (d2 : Int)), fun hh => ?_, fun l' hl => ?_⟩
    · exact absurd hh (by rw [HN.out]; simp)
    · rw [HN.out] at hl
      injection hl with hl
      rw [← hl, ← HR2.out, HZ.out]
end Go.Proofs.Ytknbehjhaaidoaa.TB

/- A table's Get and Len. -/
namespace Go.Proofs.Ytknbehjhaaidoaa.TB
open Go.RowKit Mem HD
set_option linter.unusedVariables false
set_option linter.unusedSimpArgs false

theorem ret_two {P : Program} {fn : Func} {p u : Tmp} {ty : TypeId} {v : Value} (h : fn.results = #[.cell p ty, .tmp u]) (tmps : Array Value) (w : World) (b : Nat) (C : List Value) (d : TypeDesc) (hp : tmps.getD p undef = .pointer (some ⟨b, 0, none⟩)) (hv : tmps.getD u undef = v) (hc : w.rangeAt b 0 C)
    (hu : P.underlying ty = some d) (hd : d.isRow = true) (hi : (P.info? ty).map (·.size) = some C.length) : (results fn tmps).run P w = .ok (.tuple #[.agg C.toArray, v]) w := by
  rw [results_cell_tmp h, hp, hv]
  have := run_loadVar_mid (P := P) w b 0 ty C d hc hu hd hi
  simp only [asAddr, Sem.run_pure, Result.andThen_ok, this]
/-- What is found under a key. -/
def Found (L : List (Key × Ent)) (k : Key) (r : Option Ent) : Prop := ∀ v, r = some v ↔ (k, v) ∈ L
def gotV : Option Ent → Value
  | some v => .tuple #[.agg v.L.toArray, .bool true]
  | none => .tuple #[.agg e0.L.toArray, .bool false]
theorem Found.yes {L : List (Key × Ent)} {k : Key} {v : Ent} (hn : NK L) (h : (k, v) ∈ L) : Found L k (some v) := fun v' => ⟨fun e => by injection e with e; rw [← e]; exact h, fun h' => by rw [hn.one h h']⟩
theorem Found.no {L : List (Key × Ent)} {k : Key} (h : ∀ v, (k, v) ∉ L) : Found L k none := fun v' => ⟨fun e => (nomatch e), fun h' => absurd h' (h v')⟩
theorem Found.perm {L L' : List (Key × Ent)} {k : Key} {r : Option Ent} (h : Found L k r) (p : L.Perm L') : Found L' k r := fun v => (h v).trans p.mem_iff
theorem Found.same {L : List (Key × Ent)} {k : Key} {r r' : Option Ent} (h : Found L k r) (h' : Found L k r') : r = r' := by
  cases r with
  | some v => exact ((h' v).2 ((h v).1 rfl)).symm
  | none =>
    cases r' with
    | some v => exact (h v).2 ((h' v).1 rfl)
    | none => rfl

/-- Where a key lies. -/
inductive Lies (w : World) (R : Nat → Prop) (t : Tab Key Ent) (k : Key) (ya ys : Nat) (po p : Option Addr) (at_ : Int) : Prop where
  | young (n : Nat) (v : Ent) (h1 : p = some ⟨ya, 0, none⟩) (h2 : at_ = (n : Int)) (h3 : t.y[n]? = some (.full k v))
  | old (l : List Sl) (oa os n : Nat) (v : Ent) (h0 : t.o = some l) (h1 : po = some ⟨oa, 0, none⟩) (h2 : p = some ⟨oa, 0, none⟩) (h3 : at_ = (n : Int)) (h4 : l[n]? = some (.full k v)) (h5 : ∀ v, (k, v) ∉ ents t.y)
      (h6 : ArrAt w oa os l (ents l).length (tombs l)) (h7 : R oa) (h8 : R os) (h9 : oa ≠ ya) (h10 : os ≠ ys)
  | no (h1 : at_ = -1) (h2 : ∀ v, (k, v) ∉ t.L)
theorem seek_wf {w : World} {g ya ys s : Nat} {R : Nat → Prop} {t : Tab Key Ent} {po : Option Addr} (ht : TabM w g R t ya ys po) (hw : WF hash s t) (k : Key) :
    Calls Try.prog 87 #[.pointer (some ⟨g, 0, none⟩), .int .u64 (hash k : Int), .agg k.L.toArray] w fun e w' => Mod no w w' ∧ ∃ (p : Option Addr) (at_ d : Int),
      e = .returned (.tuple #[.pointer p, .int .i64 at_, .int .i64 d]) ∧ Lies w' R t k ya ys po p at_ := by
  refine (seek_any ht hw.py (fun l hl => (hw.old l hl).1) (hash_lt k) k).mono ?_
  rintro e w' ⟨hm, d, h1, h2⟩
  refine ⟨hm, ?_⟩
  have hpb := hw.py.bd
  have ho := ht.o.mod hm (fun _ _ c => c)
  rcases find_way hw.oky (by omega) k with ⟨n, f, d', v, e1, e2⟩ | ⟨f, d', e1, e2⟩
  · have h3 := h1 (.inl (by rw [e1]; simp))
    rw [e1] at h3
    exact ⟨_, _, d, h3, .young n v rfl rfl e2⟩
  · cases hto : t.o with
    | none =>
      have h3 := h1 (.inr hto)
      rw [e1] at h3
      refine ⟨_, _, d, h3, .no rfl fun v hv => ?_⟩
      unfold Tab.L at hv
      rw [hto] at hv
      exact e2 v hv
    | some l =>
      have h3 := h2 l (by rw [e1]) hto
      rw [hto] at ho
      obtain ⟨oa, os, o1, o2, o3, o4, o5, o6⟩ := ho
      obtain ⟨p1, p2, _⟩ := hw.old l hto
      have hlb := p1.bd
      rcases find_way p2 (by omega) k with ⟨n, f2, d2, v, e3, e4⟩ | ⟨f2, d2, e3, e4⟩
      · rw [e3] at h3
        exact ⟨_, _, d, h3, .old l oa os n v hto o1 o1 rfl e4 e2 o2 o3 o4 o5 o6⟩
      · rw [e3] at h3
        refine ⟨_, _, d, h3, .no rfl fun v hv => ?_⟩
        unfold Tab.L at hv
        rw [hto] at hv
        rcases List.mem_append.1 hv with hv | hv
        · exact e4 v hv
        · exact e2 v hv

/-! ### Get -/
def W3 (w : World) (k : Key) : World := ((w.alloc (.cells k.L.toArray 39)).alloc (.cells #[.int .i64 0, .int .i64 0, .int .i64 0, .int .u32 0] 56)).alloc (.cells #[.int .i64 0, .int .i64 0, .int .i64 0, .int .u32 0] 56)
theorem w3_facts (w : World) (k : Key) : Mod no w (W3 w k) ∧ (W3 w k).rangeAt w.heap.size 0 k.L ∧ Blk (W3 w k) (w.heap.size + 1) 56 e0.L.toArray ∧ Blk (W3 w k) (w.heap.size + 1 + 1) 56 e0.L.toArray :=
  ⟨(((Mod.refl no w).alloc _).alloc _).alloc _, blk_range (((Blk.new w 39 k.L.toArray).alloc _).alloc _), (Blk.new_at (w.alloc (.cells k.L.toArray 39)) 56 e0.L.toArray (by simp)).alloc _,
   Blk.new_at ((w.alloc (.cells k.L.toArray 39)).alloc (.cells #[.int .i64 0, .int .i64 0, .int .i64 0, .int .u32 0] 56)) 56 e0.L.toArray (by simp)⟩
set_option maxRecDepth 100000 in
set_option maxHeartbeats 4000000 in
theorem get_any {w : World} {g s : Nat} {R : Nat → Prop} {t : Tab Key Ent} (ht : TabAt w g R t) (hw : WF hash s t) (k : Key) :
    Calls Try.prog 84 #[.pointer (some ⟨g, 0, none⟩), .agg k.L.toArray] w fun e w' => (∃ r, e = .returned (gotV r) ∧ Found t.L k r) ∧ Mod no w w' := by
  obtain ⟨ya, ys, po, ht⟩ := ht
  obtain ⟨f1, f2, f3, f4⟩ := w3_facts w k
  have ht1 := ht.mod f1 (fun _ _ c => c)
  have HA := Lib.hid (And.intro ht1 (And.intro f1 (And.intro f2 (And.intro f3 f4))))
  have HW := Lib.hid hw
  clear ht hw f1 f2 f3 f4 ht1
  go_enter Try.func84, Try.ntmps84
  go_upto_region 4 with (first
    | (go_at_call 85; refine (made_any ⟨ya, ys, po, HA.out.1⟩).mono ?_; rintro e w' ⟨rfl, rfl⟩))
  obtain ⟨w3, hw3⟩ : ∃ w3, w3 = W3 w k := ⟨_, rfl⟩
  rw [← hw3] at HA ⊢
  clear hw3
  obtain ⟨h0, hh0⟩ : ∃ h0, h0 = w.heap.size := ⟨_, rfl⟩
  rw [← hh0] at HA ⊢
  have HH := Lib.hid hh0
  clear hh0
  refine wp_region_held_drew (S := fun w' => TabM w' g R t ya ys po ∧ w'.rangeAt h0 0 k.L ∧ Blk w' (h0 + 1) 56 e0.L.toArray ∧ Blk w' (h0 + 1 + 1) 56 e0.L.toArray) (by kernel_rfl) ⟨HA.out.1.drew, HA.out.2.2⟩ (fun hHeld => ?_)
  refine takeD (i := 0) (d := some 15) (v := (.pointer (some ⟨g, 0, none⟩))) rfl (by kernel_rfl) (by kernel_rfl) (by kernel_rfl) rfl (fun _ _ _ h => h) (Or.inl ⟨by kernel_rfl, fun w9 hw => y_move rfl rfl⟩) hHeld ?_
  simp only [Act.put, List.setIfInBounds_toArray, List.set_cons_zero, List.set_cons_succ]
  refine takeD (i := 1) (d := some 16) (v := (.pointer (some ⟨g, 0, none⟩))) rfl (by kernel_rfl) (by kernel_rfl) (by kernel_rfl) rfl (fun _ _ _ h => h) (Or.inl ⟨by kernel_rfl, fun w9 hw => y_move rfl rfl⟩) hHeld ?_
  simp only [Act.put, List.setIfInBounds_toArray, List.set_cons_zero, List.set_cons_succ]
  refine takeD (i := 2) (d := some 17) (v := (.pointer (some ⟨g, 0, none⟩))) rfl (by kernel_rfl) (by kernel_rfl) (by kernel_rfl) rfl (fun _ _ _ h => h) (Or.inl ⟨by kernel_rfl, fun w9 hw => y_nil rfl rfl⟩) hHeld ?_
  simp only [Act.put, List.setIfInBounds_toArray, List.set_cons_zero, List.set_cons_succ]
  refine takeD (i := 3) (d := some 18) (v := (.pointer (some ⟨g, 0, none⟩))) rfl (by kernel_rfl) (by kernel_rfl) (by kernel_rfl) rfl (fun _ _ _ h => h) (Or.inl ⟨by kernel_rfl, fun w9 hw => y_ft (by decide) rfl rfl⟩) hHeld ?_
  simp only [Act.put, List.setIfInBounds_toArray, List.set_cons_zero, List.set_cons_succ]
  refine takeD (i := 4) (d := some 19) (v := (hashV)) rfl (by kernel_rfl) (by kernel_rfl) (by kernel_rfl) rfl (fun _ _ _ h => h) (Or.inl ⟨by kernel_rfl, fun w9 hw => y_one rfl (by decide) rfl (hw.1.b.cell 0) rfl⟩) hHeld ?_
  simp only [Act.put, List.setIfInBounds_toArray, List.set_cons_zero, List.set_cons_succ]
  refine takeD (i := 5) (d := some 20) (v := (.agg k.L.toArray)) rfl (by kernel_rfl) (by kernel_rfl) (by kernel_rfl) rfl (fun _ _ _ h => h) (Or.inl ⟨by kernel_rfl, fun w9 hw => y_key rfl rfl hw.2.1⟩) hHeld ?_
  simp only [Act.put, List.setIfInBounds_toArray, List.set_cons_zero, List.set_cons_succ]
  refine takeD (i := 7) (d := some 22) (v := (.agg k.L.toArray)) rfl (by kernel_rfl) (by kernel_rfl) (by kernel_rfl) rfl (fun _ _ _ h => h) (Or.inl ⟨by kernel_rfl, fun w9 hw => y_key rfl rfl hw.2.1⟩) hHeld ?_
  simp only [Act.put, List.setIfInBounds_toArray, List.set_cons_zero, List.set_cons_succ]
  refine readyD (i := 6) (d := some 21) rfl (by kernel_rfl) rfl (by kernel_rfl) fun K hK => ?_
  refine op_v1 (fun _ _ => rfl) rfl rfl rfl (hash_any k _) ?_
  rintro e w4 ⟨rfl, hm4⟩
  have HM4 := Lib.hid hm4
  refine ⟨_, rfl, hK _ _ ⟨hHeld.1.mod hm4 (fun _ _ c => c), range_mod hHeld.2.1 hm4 (fun c => c), hHeld.2.2.1.mod hm4 (fun c => c), hHeld.2.2.2.mod hm4 (fun c => c)⟩ fun hHeld9 => ?_⟩
  clear hK K hHeld
  have hHeld := hHeld9
  clear hHeld9
  simp only [Act.put, List.setIfInBounds_toArray, List.set_cons_zero, List.set_cons_succ]
  refine readyD (i := 8) (d := some 23) rfl (by kernel_rfl) rfl (by kernel_rfl) fun K hK => ?_
  refine op_c3 (fun _ _ => rfl) rfl rfl rfl rfl (seek_wf hHeld.1 HW.out k) ?_
  rintro e w5 ⟨hm5, p, at_, d, rfl, hl⟩
  have HL := Lib.hid hl
  have HM5 := Lib.hid ((HA.out.2.1.drew.and_then HM4.out).and_then hm5)
  refine ⟨_, rfl, hK _ _ ⟨hHeld.1.mod hm5 (fun _ _ c => c), range_mod hHeld.2.1 hm5 (fun c => c), hHeld.2.2.1.mod hm5 (fun c => c), hHeld.2.2.2.mod hm5 (fun c => c)⟩ fun hHeld9 => ?_⟩
  clear hK K hHeld
  have hHeld := hHeld9
  clear hHeld9
  simp only [Act.put, List.setIfInBounds_toArray, List.set_cons_zero, List.set_cons_succ]
  refine takeD (i := 9) (d := some 14) (v := (.tuple #[.pointer p, .int .i64 at_, .int .i64 d])) rfl (by kernel_rfl) (by kernel_rfl) (by kernel_rfl) rfl (fun _ _ _ h => h) (Or.inl ⟨by kernel_rfl, fun w9 hw => y_move rfl rfl⟩) hHeld ?_
  simp only [Act.put, List.setIfInBounds_toArray, List.set_cons_zero, List.set_cons_succ]
  refine takeD (i := 10) (d := some 24) (v := (.pointer p)) rfl (by kernel_rfl) (by kernel_rfl) (by kernel_rfl) rfl (fun _ _ _ h => h) (Or.inl ⟨by kernel_rfl, fun w9 hw => y_ext rfl rfl rfl⟩) hHeld ?_
  simp only [Act.put, List.setIfInBounds_toArray, List.set_cons_zero, List.set_cons_succ]
  refine takeD (i := 11) (d := some 25) (v := (.int .i64 at_)) rfl (by kernel_rfl) (by kernel_rfl) (by kernel_rfl) rfl (fun _ _ _ h => h) (Or.inl ⟨by kernel_rfl, fun w9 hw => y_ext rfl rfl rfl⟩) hHeld ?_
  simp only [Act.put, List.setIfInBounds_toArray, List.set_cons_zero, List.set_cons_succ]
  refine takeD (i := 12) (d := some 26) (v := (.int .i64 d)) rfl (by kernel_rfl) (by kernel_rfl) (by kernel_rfl) rfl (fun _ _ _ h => h) (Or.inl ⟨by kernel_rfl, fun w9 hw => y_ext rfl rfl rfl⟩) hHeld ?_
  simp only [Act.put, List.setIfInBounds_toArray, List.set_cons_zero, List.set_cons_succ]
  refine takeD (i := 13) (d := some 7) (v := (.pointer p)) rfl (by kernel_rfl) (by kernel_rfl) (by kernel_rfl) rfl (fun _ _ _ h => h) (Or.inl ⟨by kernel_rfl, fun w9 hw => y_assign rfl rfl⟩) hHeld ?_
  simp only [Act.put, List.setIfInBounds_toArray, List.set_cons_zero, List.set_cons_succ]
  refine takeD (i := 14) (d := some 8) (v := (.int .i64 at_)) rfl (by kernel_rfl) (by kernel_rfl) (by kernel_rfl) rfl (fun _ _ _ h => h) (Or.inl ⟨by kernel_rfl, fun w9 hw => y_assign rfl rfl⟩) hHeld ?_
  simp only [Act.put, List.setIfInBounds_toArray, List.set_cons_zero, List.set_cons_succ]
  refine takeD (i := 15) (d := some 9) (v := (.int .i64 d)) rfl (by kernel_rfl) (by kernel_rfl) (by kernel_rfl) rfl (fun _ _ _ h => h) (Or.inl ⟨by kernel_rfl, fun w9 hw => y_assign rfl rfl⟩) hHeld ?_
  simp only [Act.put, List.setIfInBounds_toArray, List.set_cons_zero, List.set_cons_succ]
  refine wpAnyH_done (by kernel_rfl) ?_ _
  have H4 := Lib.hid hHeld
  clear hHeld
  cases HL.out with
  | young n v h1 h2 h3 =>
    subst h1 h2
    have hha := H4.out.1.y
    have hnl : n < t.y.length := (List.getElem?_eq_some_iff.1 h3).1
    have c0 := hha.a.cell 0
    have g1 : (n : Int) < (t.y.length : Int) := by omega
    have g2 : ¬ (n : Int) < 0 := by omega
    have HR := Lib.hid (show w5.rangeAt ys (n * 37 + 33) v.L from hha.ent h3)
    have HY := Lib.hid (show (k, v) ∈ t.L from by unfold Tab.L; exact List.mem_append_right _ (mem_ents.2 ⟨n, h3⟩))
    clear hha hnl h3 HL
    go_wp2_with (first
      | (refine wpList_load_mid rfl 56 (.tmp 36) (by rfl) ys (n * 37 + 33) (by rfl) v.L _ (by exact HR.out) Try.underlying56 rfl (ent_sizeG _) ?_)
      | (refine wpList_store_mid rfl 56 (.tmp 4) (.tmp 37) (by rfl) (h0 + 1) 0 v.L.toArray (by rfl) (by rfl) (by exact blk_there H4.out.2.2.1 0 4 (by decide)) (ent_sizeG _) (all_oneCell_toArray (ent_ones _)) ?_
         obtain ⟨w6, hw6⟩ : ∃ w6, w6 = World.setCells w5 (h0 + 1) 0 v.L.toArray.toList := ⟨_, rfl⟩
         rw [← hw6]
         have HW6 := Lib.hid hw6
         clear hw6))
    have r6 : w6.rangeAt (h0 + 1) 0 v.L := by rw [HW6.out]; exact World.rangeAt_setCells_same _ _ _ _ (blk_there H4.out.2.2.1 0 4 (by decide))
    have m6 : Mod no w w6 := by rw [HW6.out]; exact mod_setCells (fun c => by have := HH.out; omega) _ _ _ HM5.out
    exact bodyPost_ret (v := gotV (some v)) (ret_two (p := 4) (u := 5) (ty := 56) rfl _ _ (h0 + 1) v.L _ rfl rfl r6 Try.underlying56 rfl (ent_sizeG _)) rfl ⟨⟨_, rfl, Found.yes HW.out.nk HY.out⟩, m6⟩
  | old l oa os n v h0' h1 h2 h3 h4 h5 h6 h7 h8 h9 h10 =>
    subst h2 h3
    have hha := h6
    have hnl : n < l.length := (List.getElem?_eq_some_iff.1 h4).1
    have c0 := hha.a.cell 0
    have g1 : (n : Int) < (l.length : Int) := by omega
    have g2 : ¬ (n : Int) < 0 := by omega
    have HR := Lib.hid (show w5.rangeAt os (n * 37 + 33) v.L from hha.ent h4)
    have HY := Lib.hid (show (k, v) ∈ t.L from by unfold Tab.L; rw [h0']; exact List.mem_append_left _ (mem_ents.2 ⟨n, h4⟩))
    clear hha hnl h4 h0' h1 h5 h6 h7 h8 h9 h10 HL
    go_wp2_with (first
      | (refine wpList_load_mid rfl 56 (.tmp 36) (by rfl) os (n * 37 + 33) (by rfl) v.L _ (by exact HR.out) Try.underlying56 rfl (ent_sizeG _) ?_)
      | (refine wpList_store_mid rfl 56 (.tmp 4) (.tmp 37) (by rfl) (h0 + 1) 0 v.L.toArray (by rfl) (by rfl) (by exact blk_there H4.out.2.2.1 0 4 (by decide)) (ent_sizeG _) (all_oneCell_toArray (ent_ones _)) ?_
         obtain ⟨w6, hw6⟩ : ∃ w6, w6 = World.setCells w5 (h0 + 1) 0 v.L.toArray.toList := ⟨_, rfl⟩
         rw [← hw6]
         have HW6 := Lib.hid hw6
         clear hw6))
    have r6 : w6.rangeAt (h0 + 1) 0 v.L := by rw [HW6.out]; exact World.rangeAt_setCells_same _ _ _ _ (blk_there H4.out.2.2.1 0 4 (by decide))
    have m6 : Mod no w w6 := by rw [HW6.out]; exact mod_setCells (fun c => by have := HH.out; omega) _ _ _ HM5.out
    exact bodyPost_ret (v := gotV (some v)) (ret_two (p := 4) (u := 5) (ty := 56) rfl _ _ (h0 + 1) v.L _ rfl rfl r6 Try.underlying56 rfl (ent_sizeG _)) rfl ⟨⟨_, rfl, Found.yes HW.out.nk HY.out⟩, m6⟩
  | no h1 h2 =>
    subst h1
    have HN := Lib.hid h2
    clear h2 HL
    go_wp2_with (first
      | (refine wpList_load_mid rfl 56 (.tmp 6) (by rfl) (h0 + 1 + 1) 0 (by rfl) e0.L _ (by exact blk_range H4.out.2.2.2) Try.underlying56 rfl (ent_sizeG _) ?_)
      | (refine wpList_store_mid rfl 56 (.tmp 4) (.tmp 29) (by rfl) (h0 + 1) 0 e0.L.toArray (by rfl) (by rfl) (by exact blk_there H4.out.2.2.1 0 4 (by decide)) (ent_sizeG _) (all_oneCell_toArray (ent_ones _)) ?_
         obtain ⟨w6, hw6⟩ : ∃ w6, w6 = World.setCells w5 (h0 + 1) 0 e0.L.toArray.toList := ⟨_, rfl⟩
         rw [← hw6]
         have HW6 := Lib.hid hw6
         clear hw6))
    have r6 : w6.rangeAt (h0 + 1) 0 e0.L := by rw [HW6.out]; exact World.rangeAt_setCells_same _ _ _ _ (blk_there H4.out.2.2.1 0 4 (by decide))
    have m6 : Mod no w w6 := by rw [HW6.out]; exact mod_setCells (fun c => by have := HH.out; omega) _ _ _ HM5.out
    exact bodyPost_ret (v := gotV none) (ret_two (p := 4) (u := 5) (ty := 56) rfl _ _ (h0 + 1) e0.L _ rfl rfl r6 Try.underlying56 rfl (ent_sizeG _)) rfl ⟨⟨_, rfl, Found.no HN.out⟩, m6⟩

/-! ### Len, New -/
theorem len_L (t : Tab Key Ent) : t.L.length = (oents t.o).length + (ents t.y).length := by unfold Tab.L; rw [List.length_append]
set_option maxRecDepth 100000 in
set_option maxHeartbeats 4000000 in
theorem len_any {w : World} {g s : Nat} {R : Nat → Prop} {t : Tab Key Ent} (ht : TabAt w g R t) (hw : WF hash s t) :
    Calls Try.prog 91 #[.pointer (some ⟨g, 0, none⟩)] w fun e w' => e = .returned (.int .i64 (t.L.length : Int)) ∧ w' = w := by
  have HM := Lib.hid (made_any ht)
  obtain ⟨ya, ys, po, ht⟩ := ht
  have c1 := ht.b.cell 1
  have c2 := ht.b.cell 2
  have c3 := ht.y.a.cell 1
  have ho := ht.o
  have hlen := len_L t
  have hyb := hw.py.bd
  have hcap := hw.cap
  cases hto : t.o with
  | none =>
    rw [hto] at ho hlen
    have ho : po = none := ho
    subst ho
    have e1 : t.L.length = (ents t.y).length := by rw [hlen]; simp [oents]
    have HE := Lib.hid e1
    clear hlen hto hyb hcap e1 ht hw
    go_enter Try.func91, Try.ntmps91
    go_wp2_with (first
      | (go_at_call 85; refine HM.out.mono ?_; rintro e w' ⟨rfl, rfl⟩))
    go_ret
    exact ⟨by rw [HE.out]; rfl, rfl⟩
  | some l =>
    rw [hto] at ho hlen hcap
    obtain ⟨oa, os, rfl, h2, _⟩ := ho
    have c4 := h2.a.cell 1
    obtain ⟨x, hx⟩ : ∃ x, x = (ents t.y).length := ⟨_, rfl⟩
    obtain ⟨z, hz⟩ : ∃ z, z = (ents l).length := ⟨_, rfl⟩
    have hd : (oents (some l)).length = (ents l).length := rfl
    rw [← hx] at c3 hlen hcap
    rw [← hz] at c4 hd
    have hwr : wrap64 ((x : Int) + (z : Int)) = (x : Int) + (z : Int) := IntWalk.wrap64_in _ (by omega)
    have HE := Lib.hid (show t.L.length = x + z ∧ wrap64 ((x : Int) + (z : Int)) = ((x + z : Nat) : Int) from ⟨by omega, by rw [hwr]; omega⟩)
    clear hlen hto hyb hcap hx hz hd h2 ht hw
    go_enter Try.func91, Try.ntmps91
    go_wp2_with (first
      | (go_at_call 85; refine HM.out.mono ?_; rintro e w' ⟨rfl, rfl⟩))
    refine bodyPost_ret (v := .int .i64 (wrap64 ((x : Int) + (z : Int)))) (by simp [results, Try.results91, go_sem]) rfl ⟨by rw [HE.out.2, HE.out.1], rfl⟩
theorem run_equalIn_func_nil {P : Program} (w : World) (d : Nat) (t : TypeId) (ps rs : Array TypeId) (v : Bool) (f : Fn) (x y : Array Value) (h : P.underlying t = some (.func ps rs v)) :
    (Op.equalIn (d + 1) t (.func f x y) .nilFunc).run P w = .ok false w := by
  simp [Op.equalIn, run_underlying h]
theorem run_eql_func_nil {P : Program} (w : World) (t : TypeId) (ps rs : Array TypeId) (v : Bool) (f : Fn) (x y : Array Value) (h : P.underlying t = some (.func ps rs v)) :
    (binOp .eql t (.func f x y) .nilFunc).run P w = .ok (.bool false) w := by
  simp only [binOp]
  simp [Op.equal, Op.maxDepth, run_equalIn_func_nil w 9999 t ps rs v f x y h]
set_option maxRecDepth 100000 in
set_option maxHeartbeats 4000000 in
theorem new_any {w : World} :
    Calls Try.prog 50 #[hashV] w fun e w' => ∃ g, e = .returned (.pointer (some ⟨g, 0, none⟩)) ∧ TabAt w' g (fun k => w.heap.size ≤ k ∧ k < w'.heap.size) ⟨List.replicate 8 .empty, none, 0⟩ ∧ Mod no w w' := by
  have heq := run_eql_func_nil (P := Try.prog) w 105 _ _ _ (.func 51) #[] #[] Try.underlying105
  unfold hashV
  go_enter Try.func50, Try.ntmps50
  go_wp2_with (first
    | (go_at_call 83; refine (newArray_any 8 (by decide) _).mono ?_; rintro e w1 ⟨ga, gs, rfl, ha, h1, h2, hm⟩; have HA := Lib.hid (And.intro ha (And.intro h1 (And.intro h2 hm))); clear ha h1 h2 hm))
  have hs := HA.out.2.2.2.size
  obtain ⟨w2, hw2⟩ : ∃ w2, w2 = w1.alloc (.cells #[.func (.func 51) #[] #[], .pointer (some ⟨ga, 0, none⟩), .pointer none, .int .i64 0] 127) := ⟨_, rfl⟩
  have hm2 : Mod no w1 w2 := by rw [hw2]; exact (Mod.refl no w1).alloc _
  have hb2 : Blk w2 w1.heap.size 127 #[hashV, .pointer (some ⟨ga, 0, none⟩), .pointer none, .int .i64 ((0 : Nat) : Int)] := by rw [hw2]; exact Blk.new w1 _ _
  have hs2 : w2.heap.size = w1.heap.size + 1 := by rw [hw2]; simp
  have ha2 := HA.out.1.mod hm2 (fun c => c) (fun c => c)
  have hl1 := HA.out.1.a.lt
  have hl2 := HA.out.1.s.lt
  rw [← hw2]
  go_ret
  refine ⟨w1.heap.size, rfl, ⟨ga, gs, none, hb2, ?_, rfl, ⟨hs, by omega⟩, ⟨HA.out.2.1, by omega⟩, ⟨HA.out.2.2.1, by omega⟩⟩, HA.out.2.2.2.and_then hm2⟩
  show ArrAt w2 ga gs (List.replicate 8 .empty) (ents (List.replicate 8 (.empty : Sl))).length (tombs (List.replicate 8 (.empty : Sl)))
  rw [ents_new, tombs_new]
  exact ha2
end Go.Proofs.Ytknbehjhaaidoaa.TB

