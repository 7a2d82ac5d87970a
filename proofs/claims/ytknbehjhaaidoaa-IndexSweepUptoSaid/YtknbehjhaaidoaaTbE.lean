/- A table in memory: made, seek, Len. -/
import Derived.Test.YtknbehjhaaidoaaTbH
import Derived.Test.YtknbehjhaaidoaaTbN
namespace Go.Proofs.Ytknbehjhaaidoaa.TB
open Go.RowKit Mem HD
set_option linter.unusedVariables false
set_option linter.unusedSimpArgs false

/-! ### Calls within a drawn region -/
section
variable {a : Act} {o : Oper} {w : World} {K : Act → World → Prop} {Q : Exit → Act → World → Prop} {R : Ending → World → Prop} {N : FuncId}
theorem op_c1 (hN : ∀ vs w, (callFunc N vs).run Try.prog w = .ok (.enter N vs) w) {x : Operand} {t : TypeId} {v : Value} (ho : o.op = .call { callee := .value (.func N), args := #[x], argTypes := #[t] }) (hx : a.eval x = v)
    (hC : Calls Try.prog N #[v] w R) (hR : ∀ e w', R e w' → ∃ u, e = .returned u ∧ K (a.put o.dst u) w') : Oper.wp Try.prog o a w K Q := by
  have h : (execOp a.eval o).run Try.prog w = .ok (.enter N #[v]) w := by
    have hf : a.eval (.func N) = .func (.func N) #[] #[] := rfl
    generalize a.eval = ev at hx hf
    unfold execOp
    simp only [ho]
    go_simp
  unfold Oper.wp
  rw [h, Oper.upon_enter]
  refine hC.mono fun e w' hr => ?_
  obtain ⟨u, rfl, hk⟩ := hR e w' hr
  exact hk
theorem op_v1 (hN : ∀ vs w, (callFunc N vs).run Try.prog w = .ok (.enter N vs) w) {f x : Operand} {t : TypeId} {v : Value} (ho : o.op = .call { callee := .value f, args := #[x], argTypes := #[t] }) (hf : a.eval f = .func (.func N) #[] #[]) (hx : a.eval x = v)
    (hC : Calls Try.prog N #[v] w R) (hR : ∀ e w', R e w' → ∃ u, e = .returned u ∧ K (a.put o.dst u) w') : Oper.wp Try.prog o a w K Q := by
  have h : (execOp a.eval o).run Try.prog w = .ok (.enter N #[v]) w := by
    generalize a.eval = ev at hx hf
    unfold execOp
    simp only [ho]
    go_simp
  unfold Oper.wp
  rw [h, Oper.upon_enter]
  refine hC.mono fun e w' hr => ?_
  obtain ⟨u, rfl, hk⟩ := hR e w' hr
  exact hk
theorem op_c2 (hN : ∀ vs w, (callFunc N vs).run Try.prog w = .ok (.enter N vs) w) {x y : Operand} {t s : TypeId} {v u1 : Value} (ho : o.op = .call { callee := .value (.func N), args := #[x, y], argTypes := #[t, s] }) (hx : a.eval x = v) (hy : a.eval y = u1)
    (hC : Calls Try.prog N #[v, u1] w R) (hR : ∀ e w', R e w' → ∃ u, e = .returned u ∧ K (a.put o.dst u) w') : Oper.wp Try.prog o a w K Q := by
  have h : (execOp a.eval o).run Try.prog w = .ok (.enter N #[v, u1]) w := by
    have hf : a.eval (.func N) = .func (.func N) #[] #[] := rfl
    generalize a.eval = ev at hx hy hf
    unfold execOp
    simp only [ho]
    go_simp
  unfold Oper.wp
  rw [h, Oper.upon_enter]
  refine hC.mono fun e w' hr => ?_
  obtain ⟨u, rfl, hk⟩ := hR e w' hr
  exact hk
theorem op_c3 (hN : ∀ vs w, (callFunc N vs).run Try.prog w = .ok (.enter N vs) w) {x y z : Operand} {t s r : TypeId} {v u1 u2 : Value} (ho : o.op = .call { callee := .value (.func N), args := #[x, y, z], argTypes := #[t, s, r] }) (hx : a.eval x = v) (hy : a.eval y = u1) (hz : a.eval z = u2)
    (hC : Calls Try.prog N #[v, u1, u2] w R) (hR : ∀ e w', R e w' → ∃ u, e = .returned u ∧ K (a.put o.dst u) w') : Oper.wp Try.prog o a w K Q := by
  have h : (execOp a.eval o).run Try.prog w = .ok (.enter N #[v, u1, u2]) w := by
    have hf : a.eval (.func N) = .func (.func N) #[] #[] := rfl
    generalize a.eval = ev at hx hy hz hf
    unfold execOp
    simp only [ho]
    go_simp
  unfold Oper.wp
  rw [h, Oper.upon_enter]
  refine hC.mono fun e w' hr => ?_
  obtain ⟨u, rfl, hk⟩ := hR e w' hr
  exact hk
theorem op_c4 (hN : ∀ vs w, (callFunc N vs).run Try.prog w = .ok (.enter N vs) w) {x y z q : Operand} {t s r p : TypeId} {v u1 u2 u3 : Value} (ho : o.op = .call { callee := .value (.func N), args := #[x, y, z, q], argTypes := #[t, s, r, p] }) (hx : a.eval x = v) (hy : a.eval y = u1) (hz : a.eval z = u2) (hq : a.eval q = u3)
    (hC : Calls Try.prog N #[v, u1, u2, u3] w R) (hR : ∀ e w', R e w' → ∃ u, e = .returned u ∧ K (a.put o.dst u) w') : Oper.wp Try.prog o a w K Q := by
  have h : (execOp a.eval o).run Try.prog w = .ok (.enter N #[v, u1, u2, u3]) w := by
    have hf : a.eval (.func N) = .func (.func N) #[] #[] := rfl
    generalize a.eval = ev at hx hy hz hq hf
    unfold execOp
    simp only [ho]
    go_simp
  unfold Oper.wp
  rw [h, Oper.upon_enter]
  refine hC.mono fun e w' hr => ?_
  obtain ⟨u, rfl, hk⟩ := hR e w' hr
  exact hk
theorem y_ext {x : Operand} {i : Nat} {vs : Array Value} {v : Value} (ho : o.op = .extract x i) (hx : a.eval x = .tuple vs) (hi : vs[i]? = some v) : (execOp a.eval o).run Try.prog w = .ok (.value v) w := by
  generalize a.eval = ev at hx
  unfold execOp
  simp only [ho, hx]
  go_simp
end

/-! ### A table -/
def hashV : Value := .func (.func 51) #[] #[]
/-- The elder array, beside the younger one at ya, ys. -/
def OldAt (w : World) (R : Nat → Prop) (ya ys : Nat) (po : Option Addr) : Option (List Sl) → Prop
  | none => po = none
  | some l => ∃ oa os, po = some ⟨oa, 0, none⟩ ∧ ArrAt w oa os l (ents l).length (tombs l) ∧ R oa ∧ R os ∧ oa ≠ ya ∧ os ≠ ys
/-- A table at block g; all its blocks are in R. -/
structure TabM (w : World) (g : Nat) (R : Nat → Prop) (t : Tab Key Ent) (ya ys : Nat) (po : Option Addr) : Prop where
  b : Blk w g 127 #[hashV, .pointer (some ⟨ya, 0, none⟩), .pointer po, .int .i64 (t.m : Int)]
  y : ArrAt w ya ys t.y (ents t.y).length (tombs t.y)
  o : OldAt w R ya ys po t.o
  rg : R g
  ry : R ya
  rs : R ys
def TabAt (w : World) (g : Nat) (R : Nat → Prop) (t : Tab Key Ent) : Prop := ∃ ya ys po, TabM w g R t ya ys po
section
variable {S R R' : Nat → Prop} {w w' : World} {g ya ys : Nat} {t : Tab Key Ent} {po : Option Addr}
theorem OldAt.mod {o : Option (List Sl)} (h : OldAt w R ya ys po o) (hm : Mod S w w') (hs : ∀ k, R k → ¬ S k) : OldAt w' R ya ys po o := by
  cases o with
  | none => exact h
  | some l =>
    obtain ⟨oa, os, h1, h2, h3, h4, h5⟩ := h
    exact ⟨oa, os, h1, h2.mod hm (hs _ h3) (hs _ h4), h3, h4, h5⟩
theorem OldAt.mono {o : Option (List Sl)} (h : OldAt w R ya ys po o) (hr : ∀ k, R k → R' k) : OldAt w R' ya ys po o := by
  cases o with
  | none => exact h
  | some l =>
    obtain ⟨oa, os, h1, h2, h3, h4, h5⟩ := h
    exact ⟨oa, os, h1, h2, hr _ h3, hr _ h4, h5⟩
theorem TabM.mod (h : TabM w g R t ya ys po) (hm : Mod S w w') (hs : ∀ k, R k → ¬ S k) : TabM w' g R t ya ys po := ⟨h.b.mod hm (hs _ h.rg), h.y.mod hm (hs _ h.ry) (hs _ h.rs), h.o.mod hm hs, h.rg, h.ry, h.rs⟩
theorem TabM.drew (h : TabM w g R t ya ys po) : TabM w.drew g R t ya ys po := h.mod ((Mod.refl no w).drew) (fun _ _ c => c)
theorem TabM.mono (h : TabM w g R t ya ys po) (hr : ∀ k, R k → R' k) : TabM w g R' t ya ys po := ⟨h.b, h.y, h.o.mono hr, hr _ h.rg, hr _ h.ry, hr _ h.rs⟩
theorem TabAt.mod (h : TabAt w g R t) (hm : Mod S w w') (hs : ∀ k, R k → ¬ S k) : TabAt w' g R t := by
  obtain ⟨ya, ys, po, h⟩ := h
  exact ⟨ya, ys, po, h.mod hm hs⟩
theorem TabAt.mono (h : TabAt w g R t) (hr : ∀ k, R k → R' k) : TabAt w g R' t := by
  obtain ⟨ya, ys, po, h⟩ := h
  exact ⟨ya, ys, po, h.mono hr⟩
end
set_option maxRecDepth 100000 in
theorem made_any {w : World} {g : Nat} {R : Nat → Prop} {t : Tab Key Ent} (h : TabAt w g R t) : Calls Try.prog 85 #[.pointer (some ⟨g, 0, none⟩)] w fun e w' => e = .returned (.bool true) ∧ w' = w := by
  obtain ⟨ya, ys, po, h⟩ := h
  have c1 := h.b.cell 1
  clear h
  go_enter Try.func85, Try.ntmps85
  go_wp2_with fail
  go_ret
  exact ⟨rfl, rfl⟩
set_option maxRecDepth 100000 in
set_option maxHeartbeats 4000000 in
theorem seek_any {w : World} {g ya ys h : Nat} {R : Nat → Prop} {t : Tab Key Ent} {po : Option Addr} (ht : TabM w g R t ya ys po) (hp : Pow t.y.length) (hpo : ∀ l, t.o = some l → Pow l.length) (hh : h < 18446744073709551616) (k : Key) :
    Calls Try.prog 87 #[.pointer (some ⟨g, 0, none⟩), .int .u64 (h : Int), .agg k.L.toArray] w fun e w' => Mod no w w' ∧ ∃ d : Int,
      ((find t.y h k).1 ≠ none ∨ t.o = none → e = .returned (.tuple #[.pointer (some ⟨ya, 0, none⟩), .int .i64 (optI (find t.y h k).1), .int .i64 d])) ∧
      (∀ l, (find t.y h k).1 = none → t.o = some l → e = .returned (.tuple #[.pointer po, .int .i64 (optI (find l h k).1), .int .i64 d])) := by
  obtain ⟨w1, hw1⟩ : ∃ w1, w1 = w.alloc (.cells k.L.toArray 39) := ⟨_, rfl⟩
  have hm1 : Mod no w w1 := by rw [hw1]; exact (Mod.refl no w).alloc _
  have hk1 : w1.rangeAt w.heap.size 0 k.L := by rw [hw1]; exact blk_range (Blk.new w 39 k.L.toArray)
  have ht1 := ht.mod hm1 (fun _ _ c => c)
  obtain ⟨gk, hgk⟩ : ∃ gk, gk = w.heap.size := ⟨_, rfl⟩
  rw [← hgk] at hk1
  have HA := Lib.hid (And.intro ht1 (And.intro hm1 hk1))
  have HP := Lib.hid (And.intro hp (And.intro hpo hh))
  have HW := Lib.hid (And.intro hw1 hgk)
  obtain ⟨r1, hr1⟩ : ∃ r1, r1 = find t.y h k := ⟨_, rfl⟩
  have HR := Lib.hid hr1
  rw [← hr1]
  obtain ⟨at1, fr1, d1⟩ := r1
  clear ht hp hpo hh hm1 hk1 ht1 hw1 hgk hr1
  go_enter Try.func87, Try.ntmps87
  go_upto_region 1 with fail
  rw [← HW.out.1, ← HW.out.2]
  refine wp_region_held_drew (S := fun w' => TabM w' g R t ya ys po ∧ w'.rangeAt gk 0 k.L) (by kernel_rfl) ⟨HA.out.1.drew, HA.out.2.2⟩ (fun hHeld => ?_)
  refine takeD (i := 0) (d := some 12) (v := (.pointer (some ⟨g, 0, none⟩))) rfl (by kernel_rfl) (by kernel_rfl) (by kernel_rfl) rfl (fun _ _ _ h => h) (Or.inl ⟨by kernel_rfl, fun w9 hw => y_move rfl rfl⟩) hHeld ?_
  simp only [Act.put, List.setIfInBounds_toArray, List.set_cons_zero, List.set_cons_succ]
  refine takeD (i := 1) (d := some 13) (v := (.pointer (some ⟨g, 0, none⟩))) rfl (by kernel_rfl) (by kernel_rfl) (by kernel_rfl) rfl (fun _ _ _ h => h) (Or.inl ⟨by kernel_rfl, fun w9 hw => y_nil rfl rfl⟩) hHeld ?_
  simp only [Act.put, List.setIfInBounds_toArray, List.set_cons_zero, List.set_cons_succ]
  refine takeD (i := 2) (d := some 14) (v := (.pointer (some ⟨g, 1, none⟩))) rfl (by kernel_rfl) (by kernel_rfl) (by kernel_rfl) rfl (fun _ _ _ h => h) (Or.inl ⟨by kernel_rfl, fun w9 hw => y_ft (by decide) rfl rfl⟩) hHeld ?_
  simp only [Act.put, List.setIfInBounds_toArray, List.set_cons_zero, List.set_cons_succ]
  refine takeD (i := 3) (d := some 15) (v := (.pointer (some ⟨ya, 0, none⟩))) rfl (by kernel_rfl) (by kernel_rfl) (by kernel_rfl) rfl (fun _ _ _ h => h) (Or.inl ⟨by kernel_rfl, fun w9 hw => y_one rfl (by decide) rfl (hw.1.b.cell 1) rfl⟩) hHeld ?_
  simp only [Act.put, List.setIfInBounds_toArray, List.set_cons_zero, List.set_cons_succ]
  refine takeD (i := 4) (d := some 16) (v := (.int .u64 (h : Int))) rfl (by kernel_rfl) (by kernel_rfl) (by kernel_rfl) rfl (fun _ _ _ h => h) (Or.inl ⟨by kernel_rfl, fun w9 hw => y_move rfl rfl⟩) hHeld ?_
  simp only [Act.put, List.setIfInBounds_toArray, List.set_cons_zero, List.set_cons_succ]
  refine takeD (i := 5) (d := some 17) (v := (.agg k.L.toArray)) rfl (by kernel_rfl) (by kernel_rfl) (by kernel_rfl) rfl (fun _ _ _ h => h) (Or.inl ⟨by kernel_rfl, fun w9 hw => y_key rfl rfl hw.2⟩) hHeld ?_
  simp only [Act.put, List.setIfInBounds_toArray, List.set_cons_zero, List.set_cons_succ]
  refine readyD (i := 6) (d := some 18) rfl (by kernel_rfl) rfl (by kernel_rfl) fun K hK => ?_
  refine op_c3 (fun _ _ => rfl) rfl rfl rfl rfl (find_any hHeld.1.y HP.out.1 HP.out.2.2 k) ?_
  rintro e w2 ⟨rfl, hm2⟩
  rw [← HR.out]
  have H2 := Lib.hid (show Mod no w w2 from HA.out.2.1.drew.and_then hm2)
  refine ⟨_, rfl, hK _ _ ⟨hHeld.1.mod hm2 (fun _ _ c => c), range_mod hHeld.2 hm2 (fun c => c)⟩ fun hHeld9 => ?_⟩
  clear hK K hHeld
  have hHeld := hHeld9
  clear hHeld9
  simp only [Act.put, List.setIfInBounds_toArray, List.set_cons_zero, List.set_cons_succ]
  refine takeD (i := 7) (d := some 11) (v := (.tuple #[.int .i64 (optI at1), .int .i64 (optI fr1), .int .i64 (d1 : Int)])) rfl (by kernel_rfl) (by kernel_rfl) (by kernel_rfl) rfl (fun _ _ _ h => h) (Or.inl ⟨by kernel_rfl, fun w9 hw => y_move rfl rfl⟩) hHeld ?_
  simp only [Act.put, List.setIfInBounds_toArray, List.set_cons_zero, List.set_cons_succ]
  refine takeD (i := 8) (d := some 19) (v := (.int .i64 (optI at1))) rfl (by kernel_rfl) (by kernel_rfl) (by kernel_rfl) rfl (fun _ _ _ h => h) (Or.inl ⟨by kernel_rfl, fun w9 hw => y_ext rfl rfl rfl⟩) hHeld ?_
  simp only [Act.put, List.setIfInBounds_toArray, List.set_cons_zero, List.set_cons_succ]
  refine takeD (i := 9) (d := some 20) (v := (.int .i64 (optI fr1))) rfl (by kernel_rfl) (by kernel_rfl) (by kernel_rfl) rfl (fun _ _ _ h => h) (Or.inl ⟨by kernel_rfl, fun w9 hw => y_ext rfl rfl rfl⟩) hHeld ?_
  simp only [Act.put, List.setIfInBounds_toArray, List.set_cons_zero, List.set_cons_succ]
  refine takeD (i := 10) (d := some 21) (v := (.int .i64 (d1 : Int))) rfl (by kernel_rfl) (by kernel_rfl) (by kernel_rfl) rfl (fun _ _ _ h => h) (Or.inl ⟨by kernel_rfl, fun w9 hw => y_ext rfl rfl rfl⟩) hHeld ?_
  simp only [Act.put, List.setIfInBounds_toArray, List.set_cons_zero, List.set_cons_succ]
  refine takeD (i := 11) (d := some 7) (v := (.int .i64 (optI at1))) rfl (by kernel_rfl) (by kernel_rfl) (by kernel_rfl) rfl (fun _ _ _ h => h) (Or.inl ⟨by kernel_rfl, fun w9 hw => y_assign rfl rfl⟩) hHeld ?_
  simp only [Act.put, List.setIfInBounds_toArray, List.set_cons_zero, List.set_cons_succ]
  refine takeD (i := 12) (d := some 8) (v := (.int .i64 (d1 : Int))) rfl (by kernel_rfl) (by kernel_rfl) (by kernel_rfl) rfl (fun _ _ _ h => h) (Or.inl ⟨by kernel_rfl, fun w9 hw => y_assign rfl rfl⟩) hHeld ?_
  simp only [Act.put, List.setIfInBounds_toArray, List.set_cons_zero, List.set_cons_succ]
  refine wpAnyH_done (by kernel_rfl) ?_ _
  have HT := Lib.hid hHeld.1
  have HK := Lib.hid hHeld.2
  have c1 := hHeld.1.b.cell 1
  have c2 := hHeld.1.b.cell 2
  clear hHeld
  obtain ⟨av, hav⟩ : ∃ av, av = optI at1 := ⟨_, rfl⟩
  rw [← hav]
  have HV := Lib.hid hav
  clear hav
  have hcase : (at1 ≠ none ∧ ¬ av < 0) ∨ (at1 = none ∧ av < 0 ∧ t.o = none ∧ po = none) ∨ (at1 = none ∧ av < 0 ∧ ∃ l oa os, t.o = some l ∧ po = some ⟨oa, 0, none⟩ ∧ ArrAt w2 oa os l (ents l).length (tombs l)) := by
    have ho := HT.out.o
    cases at1 with
    | some n => exact .inl ⟨by simp, by rw [HV.out]; show ¬ (n : Int) < 0; omega⟩
    | none =>
      refine .inr ?_
      have h1 : av < 0 := by rw [HV.out]; decide
      cases hto : t.o with
      | none => rw [hto] at ho; exact .inl ⟨rfl, h1, rfl, ho⟩
      | some l =>
        rw [hto] at ho
        obtain ⟨oa, os, h2, h3, _⟩ := ho
        exact .inr ⟨rfl, h1, l, oa, os, rfl, h2, h3⟩
  rcases hcase with ⟨hn, h1⟩ | ⟨rfl, h1, hto, rfl⟩ | ⟨rfl, h1, l, oa, os, hto, rfl, ha⟩
  · have HN := Lib.hid hn
    clear hn
    go_wp2_with fail
    refine bodyPost_ret (v := .tuple #[.pointer (some ⟨ya, 0, none⟩), .int .i64 av, .int .i64 (d1 : Int)]) (by simp [results, Try.results87, go_sem]) rfl ⟨H2.out, (d1 : Int), fun _ => by rw [HV.out], fun l hl => absurd hl HN.out⟩
  · have HN := Lib.hid hto
    clear hto
    go_wp2_with fail
    refine bodyPost_ret (v := .tuple #[.pointer (some ⟨ya, 0, none⟩), .int .i64 av, .int .i64 (d1 : Int)]) (by simp [results, Try.results87, go_sem]) rfl ⟨H2.out, (d1 : Int), fun _ => by rw [HV.out], fun l hl => by rw [HN.out] at hl; cases hl⟩
  · have HN := Lib.hid hto
    obtain ⟨r2, hr2⟩ : ∃ r2, r2 = find l h k := ⟨_, rfl⟩
    have HR2 := Lib.hid hr2
    obtain ⟨at2, fr2, d2⟩ := r2
    have HO := Lib.hid ha
    clear hto hr2 ha
    go_upto_region 4 with fail
    refine wp_region_held_drew (S := fun w' => TabM w' g R t ya ys (some ⟨oa, 0, none⟩) ∧ w'.rangeAt gk 0 k.L ∧ ArrAt w' oa os l (ents l).length (tombs l)) (by kernel_rfl) ⟨HT.out.drew, HK.out, ⟨HO.out.a, HO.out.s⟩⟩ (fun hHeld => ?_)
    refine takeD (i := 0) (d := some 38) (v := (.pointer (some ⟨g, 0, none⟩))) rfl (by kernel_rfl) (by kernel_rfl) (by kernel_rfl) rfl (fun _ _ _ h => h) (Or.inl ⟨by kernel_rfl, fun w9 hw => y_move rfl rfl⟩) hHeld ?_
    simp only [Act.put, List.setIfInBounds_toArray, List.set_cons_zero, List.set_cons_succ]
    refine takeD (i := 1) (d := some 39) (v := (.pointer (some ⟨g, 0, none⟩))) rfl (by kernel_rfl) (by kernel_rfl) (by kernel_rfl) rfl (fun _ _ _ h => h) (Or.inl ⟨by kernel_rfl, fun w9 hw => y_nil rfl rfl⟩) hHeld ?_
    simp only [Act.put, List.setIfInBounds_toArray, List.set_cons_zero, List.set_cons_succ]
    refine takeD (i := 2) (d := some 40) (v := (.pointer (some ⟨g, 2, none⟩))) rfl (by kernel_rfl) (by kernel_rfl) (by kernel_rfl) rfl (fun _ _ _ h => h) (Or.inl ⟨by kernel_rfl, fun w9 hw => y_ft (by decide) rfl rfl⟩) hHeld ?_
    simp only [Act.put, List.setIfInBounds_toArray, List.set_cons_zero, List.set_cons_succ]
    refine takeD (i := 3) (d := some 41) (v := (.pointer (some ⟨oa, 0, none⟩))) rfl (by kernel_rfl) (by kernel_rfl) (by kernel_rfl) rfl (fun _ _ _ h => h) (Or.inl ⟨by kernel_rfl, fun w9 hw => y_one rfl (by decide) rfl (hw.1.b.cell 2) rfl⟩) hHeld ?_
    simp only [Act.put, List.setIfInBounds_toArray, List.set_cons_zero, List.set_cons_succ]
    refine takeD (i := 4) (d := some 42) (v := (.int .u64 (h : Int))) rfl (by kernel_rfl) (by kernel_rfl) (by kernel_rfl) rfl (fun _ _ _ h => h) (Or.inl ⟨by kernel_rfl, fun w9 hw => y_move rfl rfl⟩) hHeld ?_
    simp only [Act.put, List.setIfInBounds_toArray, List.set_cons_zero, List.set_cons_succ]
    refine takeD (i := 5) (d := some 43) (v := (.agg k.L.toArray)) rfl (by kernel_rfl) (by kernel_rfl) (by kernel_rfl) rfl (fun _ _ _ h => h) (Or.inl ⟨by kernel_rfl, fun w9 hw => y_key rfl rfl hw.2.1⟩) hHeld ?_
    simp only [Act.put, List.setIfInBounds_toArray, List.set_cons_zero, List.set_cons_succ]
    refine readyD (i := 6) (d := some 44) rfl (by kernel_rfl) rfl (by kernel_rfl) fun K hK => ?_
    refine op_c3 (fun _ _ => rfl) rfl rfl rfl rfl (find_any hHeld.2.2 (HP.out.2.1 l HN.out) HP.out.2.2 k) ?_
    rintro e w3 ⟨rfl, hm3⟩
    rw [← HR2.out]
    have H3 := Lib.hid (show Mod no w w3 from H2.out.drew.and_then hm3)
    refine ⟨_, rfl, hK _ _ ⟨hHeld.1.mod hm3 (fun _ _ c => c), range_mod hHeld.2.1 hm3 (fun c => c), hHeld.2.2.mod hm3 (fun c => c) (fun c => c)⟩ fun hHeld9 => ?_⟩
    clear hK K hHeld
    have hHeld := hHeld9
    clear hHeld9
    simp only [Act.put, List.setIfInBounds_toArray, List.set_cons_zero, List.set_cons_succ]
    refine takeD (i := 7) (d := some 37) (v := (.tuple #[.int .i64 (optI at2), .int .i64 (optI fr2), .int .i64 (d2 : Int)])) rfl (by kernel_rfl) (by kernel_rfl) (by kernel_rfl) rfl (fun _ _ _ h => h) (Or.inl ⟨by kernel_rfl, fun w9 hw => y_move rfl rfl⟩) hHeld ?_
    simp only [Act.put, List.setIfInBounds_toArray, List.set_cons_zero, List.set_cons_succ]
    refine takeD (i := 8) (d := some 45) (v := (.int .i64 (optI at2))) rfl (by kernel_rfl) (by kernel_rfl) (by kernel_rfl) rfl (fun _ _ _ h => h) (Or.inl ⟨by kernel_rfl, fun w9 hw => y_ext rfl rfl rfl⟩) hHeld ?_
    simp only [Act.put, List.setIfInBounds_toArray, List.set_cons_zero, List.set_cons_succ]
    refine takeD (i := 9) (d := some 46) (v := (.int .i64 (optI fr2))) rfl (by kernel_rfl) (by kernel_rfl) (by kernel_rfl) rfl (fun _ _ _ h => h) (Or.inl ⟨by kernel_rfl, fun w9 hw => y_ext rfl rfl rfl⟩) hHeld ?_
    simp only [Act.put, List.setIfInBounds_toArray, List.set_cons_zero, List.set_cons_succ]
    refine takeD (i := 10) (d := some 47) (v := (.int .i64 (d2 : Int))) rfl (by kernel_rfl) (by kernel_rfl) (by kernel_rfl) rfl (fun _ _ _ h => h) (Or.inl ⟨by kernel_rfl, fun w9 hw => y_ext rfl rfl rfl⟩) hHeld ?_
    simp only [Act.put, List.setIfInBounds_toArray, List.set_cons_zero, List.set_cons_succ]
    refine takeD (i := 11) (d := some 7) (v := (.int .i64 (optI at2))) rfl (by kernel_rfl) (by kernel_rfl) (by kernel_rfl) rfl (fun _ _ _ h => h) (Or.inl ⟨by kernel_rfl, fun w9 hw => y_assign rfl rfl⟩) hHeld ?_
    simp only [Act.put, List.setIfInBounds_toArray, List.set_cons_zero, List.set_cons_succ]
    refine takeD (i := 12) (d := some 9) (v := (.int .i64 (optI fr2))) rfl (by kernel_rfl) (by kernel_rfl) (by kernel_rfl) rfl (fun _ _ _ h => h) (Or.inl ⟨by kernel_rfl, fun w9 hw => y_assign rfl rfl⟩) hHeld ?_
    simp only [Act.put, List.setIfInBounds_toArray, List.set_cons_zero, List.set_cons_succ]
    refine takeD (i := 13) (d := some 10) (v := (.int .i64 (d2 : Int))) rfl (by kernel_rfl) (by kernel_rfl) (by kernel_rfl) rfl (fun _ _ _ h => h) (Or.inl ⟨by kernel_rfl, fun w9 hw => y_assign rfl rfl⟩) hHeld ?_
    simp only [Act.put, List.setIfInBounds_toArray, List.set_cons_zero, List.set_cons_succ]
    refine wpAnyH_done (by kernel_rfl) ?_ _
    obtain ⟨z, hz⟩ : ∃ z, z = optI at2 := ⟨_, rfl⟩
    rw [← hz]
    have HZ := Lib.hid hz
    have c2' := hHeld.1.b.cell 2
    clear hz hHeld c1 c2 h1
    go_wp2_with fail
    refine bodyPost_ret (v := .tuple #[.pointer (some ⟨oa, 0, none⟩), .int .i64 z, .int .i64 (wrap64 ((d1 : Int) + (d2 : Int)))]) (by simp [results, Try.results87, go_sem]) rfl ⟨H3.out, wrap64 ((d1 : Int) + (d2 : Int)), fun hh => ?_, fun l' hl => ?_⟩
    · exact absurd hh (by rw [HN.out]; simp)
    · rw [HN.out] at hl
      injection hl with hl
      rw [← hl, ← HR2.out, HZ.out]
end Go.Proofs.Ytknbehjhaaidoaa.TB

