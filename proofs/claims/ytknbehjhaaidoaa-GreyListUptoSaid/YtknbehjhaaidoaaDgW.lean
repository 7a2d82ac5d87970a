/- The work list's Push and Bottom, and the law's works (printed by greyworks.py). -/
import Derived.Test.YtknbehjhaaidoaaDgN
import Derived.Test.YtknbehjhaaidoaaDqN
namespace Go.Proofs.Ytknbehjhaaidoaa.DG
open Go.RowKit Mem DQ
set_option linter.unusedVariables false
set_option linter.unusedSimpArgs false

set_option maxRecDepth 100000 in
set_option maxHeartbeats 4000000 in
theorem bottom_any {w : World} {lg g gr f : Nat} {C L : List (List Value)} {x : List Value} (hl : Blk w lg 95 #[.pointer (some ⟨g, 0, none⟩)]) (h : DgAt w g gr C f (x :: L)) :
    Calls Try.prog 37 #[.pointer (some ⟨lg, 0, none⟩)] w fun e w' => e = .returned (.tuple #[.agg x.toArray, .bool true]) ∧ Mod no w w' := by
  have hx0 := h.h.at_ 0 x rfl
  have hel := h.e x (List.mem_of_getElem? hx0)
  have HL := Lib.hid (hl.alloc (.cells #[.int .u8 0, .int .u8 0, .int .u8 0, .int .u8 0, .int .u8 0, .int .u8 0, .int .u8 0, .int .u8 0, .int .u8 0, .int .u8 0, .int .u8 0, .int .u8 0, .int .u8 0, .int .u8 0, .int .u8 0, .int .u8 0, .int .u8 0, .int .u8 0, .int .u8 0, .int .u8 0, .int .u8 0, .int .u8 0, .int .u8 0, .int .u8 0, .int .u8 0, .int .u8 0, .int .u8 0, .int .u8 0, .int .u8 0, .int .u8 0, .int .u8 0, .int .u8 0, .int .i64 0] 89))
  have HH := Lib.hid (h.mod ((Mod.refl no w).alloc (.cells #[.int .u8 0, .int .u8 0, .int .u8 0, .int .u8 0, .int .u8 0, .int .u8 0, .int .u8 0, .int .u8 0, .int .u8 0, .int .u8 0, .int .u8 0, .int .u8 0, .int .u8 0, .int .u8 0, .int .u8 0, .int .u8 0, .int .u8 0, .int .u8 0, .int .u8 0, .int .u8 0, .int .u8 0, .int .u8 0, .int .u8 0, .int .u8 0, .int .u8 0, .int .u8 0, .int .u8 0, .int .u8 0, .int .u8 0, .int .u8 0, .int .u8 0, .int .u8 0, .int .i64 0] 89)) (fun c => c) (fun c => c))
  have HZ := Lib.hid (Blk.new w 89 #[.int .u8 0, .int .u8 0, .int .u8 0, .int .u8 0, .int .u8 0, .int .u8 0, .int .u8 0, .int .u8 0, .int .u8 0, .int .u8 0, .int .u8 0, .int .u8 0, .int .u8 0, .int .u8 0, .int .u8 0, .int .u8 0, .int .u8 0, .int .u8 0, .int .u8 0, .int .u8 0, .int .u8 0, .int .u8 0, .int .u8 0, .int .u8 0, .int .u8 0, .int .u8 0, .int .u8 0, .int .u8 0, .int .u8 0, .int .u8 0, .int .u8 0, .int .u8 0, .int .i64 0])
  have HM := Lib.hid ((Mod.refl no w).alloc (.cells #[.int .u8 0, .int .u8 0, .int .u8 0, .int .u8 0, .int .u8 0, .int .u8 0, .int .u8 0, .int .u8 0, .int .u8 0, .int .u8 0, .int .u8 0, .int .u8 0, .int .u8 0, .int .u8 0, .int .u8 0, .int .u8 0, .int .u8 0, .int .u8 0, .int .u8 0, .int .u8 0, .int .u8 0, .int .u8 0, .int .u8 0, .int .u8 0, .int .u8 0, .int .u8 0, .int .u8 0, .int .u8 0, .int .u8 0, .int .u8 0, .int .u8 0, .int .u8 0, .int .i64 0] 89))
  have HE := Lib.hid hel
  clear hl h hx0 hel
  go_enter Try.func37, Try.ntmps37
  go_wp2_with (first
    | (go_at_call 48; refine (row_any HL.out).mono ?_; rintro e w' ⟨rfl, rfl⟩)
    | (go_at_call 75; refine end_bottom.mono ?_; rintro e w' ⟨rfl, rfl⟩)
    | (go_at_call 74
       refine (at_has (i := 0) HH.out rfl rfl).mono ?_
       rintro e w2 ⟨rfl, m2⟩
       have hb2 := HZ.out.mod m2 (fun c => c)
       have HT := Lib.hid (show w2.there w.heap.size 0 33 from fun j hj => ⟨by rw [hb2.cell, Array.getElem?_eq_getElem (by simpa using hj)]; rfl, hb2.free _⟩)
       have HM2 := Lib.hid m2
       have hs9 : x.toArray.size = 33 := by rw [List.size_toArray]; exact HE.out.1
       have HS9 := Lib.hid hs9
       clear hb2 m2 hs9)
    | (refine wpList_store_mid rfl 89 (.tmp 2) (.tmp 9) rfl w.heap.size 0 x.toArray rfl rfl (by rw [HS9.out]; exact HT.out) (by rw [List.size_toArray]; exact grey_info HE.out.1) (all_oneCell_toArray HE.out.2) ?_
       simp only [List.toList_toArray]
       have hr9 := World.rangeAt_setCells_same w2 w.heap.size 0 x (by rw [HE.out.1]; exact HT.out)
       have HR9 := Lib.hid hr9
       have HM9 := Lib.hid (show Mod no w (w2.setCells w.heap.size 0 x) from (HM.out.and_then HM2.out).trans (mod_setCells (S := one w.heap.size) (show one w.heap.size w.heap.size from rfl) x 0 _ (Mod.refl _ _)) fun b hb c => by have c : b = w.heap.size := c; omega)
       clear hr9
       generalize w2.setCells w.heap.size 0 x = w9 at *))
  exact grey_done HE.out.1 HR9.out _ rfl rfl rfl _ Try.results37 _ ⟨rfl, HM9.out⟩

/-- The key that the law's works pushes, and the entry. -/
def k4 : List Value := [.int .u8 4, .int .u8 0, .int .u8 0, .int .u8 0, .int .u8 0, .int .u8 0, .int .u8 0, .int .u8 0, .int .u8 0, .int .u8 0, .int .u8 0, .int .u8 0, .int .u8 0, .int .u8 0, .int .u8 0, .int .u8 0, .int .u8 0, .int .u8 0, .int .u8 0, .int .u8 0, .int .u8 0, .int .u8 0, .int .u8 0, .int .u8 0, .int .u8 0, .int .u8 0, .int .u8 0, .int .u8 0, .int .u8 0, .int .u8 0, .int .u8 0, .int .u8 0]
def x4 : List Value := [.int .u8 4, .int .u8 0, .int .u8 0, .int .u8 0, .int .u8 0, .int .u8 0, .int .u8 0, .int .u8 0, .int .u8 0, .int .u8 0, .int .u8 0, .int .u8 0, .int .u8 0, .int .u8 0, .int .u8 0, .int .u8 0, .int .u8 0, .int .u8 0, .int .u8 0, .int .u8 0, .int .u8 0, .int .u8 0, .int .u8 0, .int .u8 0, .int .u8 0, .int .u8 0, .int .u8 0, .int .u8 0, .int .u8 0, .int .u8 0, .int .u8 0, .int .u8 0, .int .i64 0]
theorem x4_ele : Ele x4 := ⟨rfl, fun v hv => by
  have h : v = .int .u8 4 ∨ v = .int .u8 0 ∨ v = .int .i64 0 := by
    simp only [x4, List.mem_cons, List.not_mem_nil, or_false] at hv
    rcases hv with h | h
    · exact .inl h
    · right
      repeat (first | exact .inr h | (rcases h with h | h; exact .inl h))
  rcases h with rfl | rfl | rfl <;> rfl⟩
theorem key_info : (Try.prog.info? 39).map (·.size) = some k4.length := by kernel_rfl
section
variable {a : Act} {o : Oper} {w w' : World}
theorem y_key {x : Operand} {b : Nat} (ho : o.op = .load 39 x) (hx : a.eval x = .pointer (some ⟨b, 0, none⟩)) (hr : w.rangeAt b 0 k4) : (execOp a.eval o).run Try.prog w = .ok (.value (.agg k4.toArray)) w := by
  generalize a.eval = ev at hx
  unfold execOp
  simp only [ho, hx, Sem.run_bind, run_loadAt_mid w b 0 39 k4 _ hr Try.underlying39 rfl key_info, Result.andThen_ok, Sem.run_pure]
set_option maxRecDepth 100000 in
theorem y_build {x : Operand} (ho : o.op = .build 89 #[(0, x)]) (hx : a.eval x = .agg k4.toArray) : (execOp a.eval o).run Try.prog w = .ok (.value (.agg x4.toArray)) w := by
  generalize a.eval = ev at hx
  unfold execOp
  simp only [ho, hx]
  go_simp
  rfl
theorem op_row {K : Act → World → Prop} {Q : Exit → Act → World → Prop} {x0 : Operand} {t0 : TypeId} {v0 : Value} {R : Ending → World → Prop} (ho : o.op = .call { callee := .value (.func 48), args := #[x0], argTypes := #[t0] }) (h0 : a.eval x0 = v0)
    (hC : Calls Try.prog 48 #[v0] w R) (hR : ∀ e w', R e w' → ∃ u, e = .returned u ∧ K (a.put o.dst u) w') : Oper.wp Try.prog o a w K Q := by
  have h : (execOp a.eval o).run Try.prog w = .ok (.enter 48 #[v0]) w := by
    have hf : a.eval (.func 48) = .func (.func 48) #[] #[] := rfl
    generalize a.eval = ev at h0 hf
    unfold execOp
    simp only [ho]
    go_simp
  unfold Oper.wp
  rw [h, Oper.upon_enter]
  refine hC.mono fun e w' hr => ?_
  obtain ⟨u, rfl, hk⟩ := hR e w' hr
  exact hk
theorem op_push {K : Act → World → Prop} {Q : Exit → Act → World → Prop} {x0 x1 : Operand} {t0 t1 : TypeId} {v0 v1 : Value} {R : Ending → World → Prop} (ho : o.op = .call { callee := .value (.func 73), args := #[x0, x1], argTypes := #[t0, t1] }) (h0 : a.eval x0 = v0) (h1 : a.eval x1 = v1)
    (hC : Calls Try.prog 73 #[v0, v1] w R) (hR : ∀ e w', R e w' → ∃ u, e = .returned u ∧ K (a.put o.dst u) w') : Oper.wp Try.prog o a w K Q := by
  have h : (execOp a.eval o).run Try.prog w = .ok (.enter 73 #[v0, v1]) w := by
    have hf : a.eval (.func 73) = .func (.func 73) #[] #[] := rfl
    generalize a.eval = ev at h0 h1 hf
    unfold execOp
    simp only [ho]
    go_simp
  unfold Oper.wp
  rw [h, Oper.upon_enter]
  refine hC.mono fun e w' hr => ?_
  obtain ⟨u, rfl, hk⟩ := hR e w' hr
  exact hk
end

set_option maxRecDepth 100000 in
set_option maxHeartbeats 4000000 in
theorem push_any {w : World} {lg g gr f p : Nat} {C L : List (List Value)} (hl : Blk w lg 95 #[.pointer (some ⟨g, 0, none⟩)]) (h : DgAt w g gr C f L) (hlt : L.length < C.length) (hp : p = (f + L.length) % C.length) :
    Calls Try.prog 36 #[.pointer (some ⟨lg, 0, none⟩), .agg k4.toArray] w fun e w' => e = .returned (.tuple #[]) ∧ DgAt w' g gr (C.set p x4) f (L ++ [x4]) ∧ Mod (two g gr) w w' := by
  have hgl := h.d.lt
  have hgrl := h.r.lt
  have HL := Lib.hid (hl.alloc (.cells k4.toArray 39))
  have HH := Lib.hid (h.mod ((Mod.refl no w).alloc (.cells k4.toArray 39)) (fun c => c) (fun c => c))
  have HK := Lib.hid (Blk.new w 39 k4.toArray)
  have HM := Lib.hid ((Mod.refl no w).alloc (.cells k4.toArray 39))
  have HP := Lib.hid (And.intro hlt hp)
  clear hl h hlt hp
  go_enter Try.func36, Try.ntmps36
  go_wp2_with fail
  generalize w.alloc (.cells k4.toArray 39) = w1 at *
  have HR := Lib.hid (show ∀ w', Mod (two g gr) w1 w' → w'.rangeAt w.heap.size 0 k4 from fun w' m j v hv => by
    rw [(HK.out.mod m (fun c => by rcases c with c | c <;> omega)).cell, Nat.zero_add, List.getElem?_toArray]; exact hv)
  have m1 : Mod no w1 w1.drew := (Mod.refl no w1).drew
  refine wp_region_held_drew (S := fun w' => w'.rangeAt w.heap.size 0 k4) (by kernel_rfl) (HR.out _ (m1.mono (fun _ _ c => c.elim))) (fun hHeld => ?_)
  refine takeD (i := 0) (d := some 4) (v := (.pointer (some ⟨lg, 0, none⟩))) rfl (by kernel_rfl) (by kernel_rfl) (by kernel_rfl) rfl (fun _ _ _ h => h) (Or.inl ⟨by kernel_rfl, fun w hw => y_move rfl rfl⟩) hHeld ?_
  simp only [Act.put, List.setIfInBounds_toArray, List.set_cons_zero, List.set_cons_succ]
  refine takeD (i := 2) (d := some 6) (v := (.agg k4.toArray)) rfl (by kernel_rfl) (by kernel_rfl) (by kernel_rfl) rfl (fun _ _ _ h => h) (Or.inl ⟨by kernel_rfl, fun w hw => y_key rfl rfl hw⟩) hHeld ?_
  simp only [Act.put, List.setIfInBounds_toArray, List.set_cons_zero, List.set_cons_succ]
  refine takeD (i := 3) (d := some 7) (v := (.agg x4.toArray)) rfl (by kernel_rfl) (by kernel_rfl) (by kernel_rfl) rfl (fun _ _ _ h => h) (Or.inl ⟨by kernel_rfl, fun w hw => y_build rfl rfl⟩) hHeld ?_
  simp only [Act.put, List.setIfInBounds_toArray, List.set_cons_zero, List.set_cons_succ]
  refine readyD (i := 1) (d := some 5) rfl (by kernel_rfl) rfl (by kernel_rfl) fun K hK => ?_
  refine op_row rfl rfl (row_any (HL.out.mod m1 (fun c => c))) ?_
  rintro e w3 ⟨rfl, rfl⟩
  refine ⟨_, rfl, hK _ _ hHeld fun _ => ?_⟩
  clear hK K
  simp only [Act.put, List.setIfInBounds_toArray, List.set_cons_zero, List.set_cons_succ]
  refine readyD (i := 4) (d := some 8) rfl (by kernel_rfl) rfl (by kernel_rfl) fun K hK => ?_
  refine op_push rfl rfl rfl (push_top (HH.out.mod m1 (fun c => c) (fun c => c)) x4_ele HP.out.1 HP.out.2) ?_
  rintro e w4 ⟨rfl, h4, m4⟩
  have HF := Lib.hid (And.intro h4 ((HM.out.mono (S' := two g gr) (fun _ _ c => c.elim)).and_then ((m1.mono (S' := two g gr) (fun _ _ c => c.elim)).and_then m4)))
  refine ⟨_, rfl, hK _ _ (HR.out _ ((m1.mono (S' := two g gr) (fun _ _ c => c.elim)).and_then m4)) fun _ => ?_⟩
  clear hK K hHeld h4 m4
  simp only [Act.put, List.setIfInBounds_toArray, List.set_cons_zero, List.set_cons_succ]
  refine wpAnyH_done (by kernel_rfl) ?_ _
  go_wp2_with fail
  go_end0
  exact ⟨rfl, HF.out.1, HF.out.2⟩

set_option maxRecDepth 100000 in
set_option maxHeartbeats 1000000 in
theorem pop_top_raw {w : World} {g gr f : Nat} {C L : List Int} {x : Int} (H : DI.DqAt w g gr C f (L ++ [x])) :
    Calls Try.prog 12 #[.pointer (some ⟨g, 0, none⟩)] w fun e w' => e = .returned (.tuple #[.int .i64 x, .bool true]) ∧ Mod (two g gr) w w' := by
  have hcb := H.b
  have hne := H.ne
  have c3 := H.d.cell 3
  have f3 := H.d.free 3
  simp at c3
  obtain ⟨hx, hh⟩ := H.h.pop_top 0
  have hll : ((L.length : Int) + 1) - 1 = (L.length : Int) := by omega
  have hsz := H.h.size
  simp at hsz
  have hnz : ¬ (L.length : Int) + 1 = 0 := by omega
  have hw64 : wrap64 (L.length : Int) = (L.length : Int) := IntWalk.wrap64_in _ (by omega)
  have HH := Lib.hid H
  have HX := Lib.hid (And.intro hx (And.intro hh (And.intro hcb hsz)))
  clear H hx hh hcb hll hsz
  go_enter Try.func12, Try.ntmps12
  go_wp2_with fail
  refine (DI.len_any HH.out).mono ?_
  rintro e w' ⟨rfl, rfl⟩
  simp only [List.length_append, List.length_cons, List.length_nil, Nat.zero_add]
  go_wp2_with fail
  have hd2 := HH.out.d.put 3 (.int .i64 (L.length : Int))
  simp at hd2
  refine (DI.take_any (p := (f + L.length) % C.length) (x := x) hd2 (HH.out.r.far (p := ⟨g, 3, none⟩) (fun e => hne e.symm) _) rfl HX.out.1 ?_ ?_ HH.out.b).mono ?_
  · have := HH.out.h.from_; have := HX.out; omega
  · have := HX.out; omega
  rintro e w2 ⟨rfl, d2, r2, m2⟩
  have H2 := Lib.hid (And.intro d2 (And.intro r2 m2))
  clear d2 r2 m2 hd2
  go_wp2_with fail
  go_ret2
  exact ⟨rfl, ((Mod.refl (two g gr) w).set (p := ⟨g, 3, none⟩) (fun _ => .inl rfl) _).and_then (H2.out.2.2.mono (S' := two g gr) (fun _ _ c => .inr c))⟩

theorem key_eq (W : World) : (binOp .eql 39 (.agg k4.toArray) (.agg #[.int .u8 4, .int .u8 0, .int .u8 0, .int .u8 0, .int .u8 0, .int .u8 0, .int .u8 0, .int .u8 0, .int .u8 0, .int .u8 0, .int .u8 0, .int .u8 0, .int .u8 0, .int .u8 0, .int .u8 0, .int .u8 0, .int .u8 0, .int .u8 0, .int .u8 0, .int .u8 0, .int .u8 0, .int .u8 0, .int .u8 0, .int .u8 0, .int .u8 0, .int .u8 0, .int .u8 0, .int .u8 0, .int .u8 0, .int .u8 0, .int .u8 0, .int .u8 0])).run Try.prog W = .ok (.bool true) W := by kernel_rfl

theorem wpList_load_midG {ops : Array Oper} {rest : List Oper} {op : Oper} {a : Act} {w : World} {Q : Exit → Act → World → Prop} (hgd : Region.wanted op (yielded ops a.tmps) = true) (ty : TypeId) (x : Operand) (ho : op.op = .load ty x)
    (b o : Nat) (hx : a.eval x = .pointer (some ⟨b, o, none⟩)) (cs : List Value) (d : TypeDesc) (hc : w.rangeAt b o cs)
    (hu : Try.prog.underlying ty = some d) (hd : d.isRow = true) (hi : (Try.prog.info? ty).map (·.size) = some cs.length)
    (h : wpList Try.prog ops Q rest (a.put op.dst (.agg cs.toArray)) w) : wpList Try.prog ops Q (op :: rest) a w :=
  wpList_step fun K hK => by
    rw [if_pos hgd]
    exact wp_load_mid ty x ho b o hx cs d hc hu hd hi (hK _ _ h)

set_option maxRecDepth 100000 in
set_option maxHeartbeats 4000000 in
theorem works_any (w : World) : Calls Try.prog 14 #[] w fun e w' => e = .returned (.bool true) ∧ Mod no w w' := by
  have hke := key_eq
  go_enter Try.func14, Try.ntmps14
  go_wp2_with fail
  have hr7 := Rds.one_new w (.int .i64 7) 3
  have m0 : Mod no w (w.alloc (.cells #[.int .i64 7] 3)) := (Mod.refl no w).alloc _
  refine (DI.new_any (vs := [7]) (c := 1) hr7 (by decide)).mono ?_
  rintro e w1 ⟨d, rfl, S1⟩
  have HS1 := Lib.hid (S1.up m0)
  clear S1 hr7 m0
  go_wp2_with fail
  refine lnew_any.mono ?_
  rintro e w2 ⟨lg, g, gr, rfl, hl, hd, h1, h2, h3, m2⟩
  have HS2 := Lib.hid (HS1.out.mod_no m2)
  have HG := Lib.hid (And.intro hl (And.intro hd (And.intro h1 (And.intro h2 (And.intro h3 m2)))))
  have hs1 := HS1.out.old.size
  clear hl hd m2
  go_wp2_with fail
  obtain ⟨dr, C, f, HD, hd1, hd2, _⟩ := HS2.out
  refine (pop_top_raw (L := []) (x := 7) HD).mono ?_
  rintro e w3 ⟨rfl, m3⟩
  have n1 : ¬ two d dr lg := fun c => by
    rcases c with c | c
    · have h := HD.d; rw [← c] at h; exact absurd (h.same HG.out.1).1 (by decide)
    · have h := HD.r; rw [← c] at h; exact absurd (h.same HG.out.1).1 (by decide)
  have n2 : ¬ two d dr g := fun c => by
    rcases c with c | c
    · have h := HD.d; rw [← c] at h; exact absurd (h.same HG.out.2.1.d).1 (by decide)
    · have h := HD.r; rw [← c] at h; exact absurd (h.same HG.out.2.1.d).1 (by decide)
  have n3 : ¬ two d dr gr := fun c => by
    rcases c with c | c
    · have h := HD.d; rw [← c] at h; exact absurd (h.same HG.out.2.1.r).1 (by decide)
    · have h := HD.r; rw [← c] at h; exact absurd (h.same HG.out.2.1.r).1 (by decide)
  have H3 := Lib.hid (And.intro (HG.out.1.mod m3 n1) (And.intro (HG.out.2.1.mod m3 n2 n3) (HS2.out.old.trans m3 fun b hb c => by rcases c with c | c <;> omega)))
  clear m3 n1 n2 n3 HD
  go_wp2_with fail
  refine (push_any (p := 0) H3.out.1 H3.out.2.1 (by decide) rfl).mono ?_
  rintro e w4 ⟨rfl, h4, m4⟩
  have n4 : ¬ two g gr lg := fun c => by
    rcases c with c | c
    · have h := H3.out.2.1.d; rw [← c] at h; exact absurd (h.same H3.out.1).1 (by decide)
    · have h := H3.out.2.1.r; rw [← c] at h; exact absurd (h.same H3.out.1).1 (by decide)
  have H4 := Lib.hid (And.intro (H3.out.1.mod m4 n4) (And.intro h4 (H3.out.2.2.trans m4 fun b hb c => by rcases c with c | c <;> omega)))
  clear h4 m4 n4
  go_wp2_with fail
  refine (bottom_any (L := []) H4.out.1 H4.out.2.1).mono ?_
  rintro e w5 ⟨rfl, m5⟩
  have H5 := Lib.hid (And.intro (H4.out.1.mod m5 (fun c => c)) (And.intro (H4.out.2.1.mod m5 (fun c => c) (fun c => c)) (H4.out.2.2.and_then m5)))
  clear m5
  have bz : Blk (w5.alloc (.cells #[.int .u8 0, .int .u8 0, .int .u8 0, .int .u8 0, .int .u8 0, .int .u8 0, .int .u8 0, .int .u8 0, .int .u8 0, .int .u8 0, .int .u8 0, .int .u8 0, .int .u8 0, .int .u8 0, .int .u8 0, .int .u8 0, .int .u8 0, .int .u8 0, .int .u8 0, .int .u8 0, .int .u8 0, .int .u8 0, .int .u8 0, .int .u8 0, .int .u8 0, .int .u8 0, .int .u8 0, .int .u8 0, .int .u8 0, .int .u8 0, .int .u8 0, .int .u8 0, .int .i64 0] 89)) w5.heap.size 89 #[.int .u8 0, .int .u8 0, .int .u8 0, .int .u8 0, .int .u8 0, .int .u8 0, .int .u8 0, .int .u8 0, .int .u8 0, .int .u8 0, .int .u8 0, .int .u8 0, .int .u8 0, .int .u8 0, .int .u8 0, .int .u8 0, .int .u8 0, .int .u8 0, .int .u8 0, .int .u8 0, .int .u8 0, .int .u8 0, .int .u8 0, .int .u8 0, .int .u8 0, .int .u8 0, .int .u8 0, .int .u8 0, .int .u8 0, .int .u8 0, .int .u8 0, .int .u8 0, .int .i64 0] := Blk.new w5 _ _
  have HZ := Lib.hid (And.intro bz (H5.out.2.2.alloc (.cells #[.int .u8 0, .int .u8 0, .int .u8 0, .int .u8 0, .int .u8 0, .int .u8 0, .int .u8 0, .int .u8 0, .int .u8 0, .int .u8 0, .int .u8 0, .int .u8 0, .int .u8 0, .int .u8 0, .int .u8 0, .int .u8 0, .int .u8 0, .int .u8 0, .int .u8 0, .int .u8 0, .int .u8 0, .int .u8 0, .int .u8 0, .int .u8 0, .int .u8 0, .int .u8 0, .int .u8 0, .int .u8 0, .int .u8 0, .int .u8 0, .int .u8 0, .int .u8 0, .int .i64 0] 89)))
  have HA := Lib.hid (And.intro (H5.out.1.alloc (.cells #[.int .u8 0, .int .u8 0, .int .u8 0, .int .u8 0, .int .u8 0, .int .u8 0, .int .u8 0, .int .u8 0, .int .u8 0, .int .u8 0, .int .u8 0, .int .u8 0, .int .u8 0, .int .u8 0, .int .u8 0, .int .u8 0, .int .u8 0, .int .u8 0, .int .u8 0, .int .u8 0, .int .u8 0, .int .u8 0, .int .u8 0, .int .u8 0, .int .u8 0, .int .u8 0, .int .u8 0, .int .u8 0, .int .u8 0, .int .u8 0, .int .u8 0, .int .u8 0, .int .i64 0] 89)) (H5.out.2.1.mod ((Mod.refl no w5).alloc (.cells #[.int .u8 0, .int .u8 0, .int .u8 0, .int .u8 0, .int .u8 0, .int .u8 0, .int .u8 0, .int .u8 0, .int .u8 0, .int .u8 0, .int .u8 0, .int .u8 0, .int .u8 0, .int .u8 0, .int .u8 0, .int .u8 0, .int .u8 0, .int .u8 0, .int .u8 0, .int .u8 0, .int .u8 0, .int .u8 0, .int .u8 0, .int .u8 0, .int .u8 0, .int .u8 0, .int .u8 0, .int .u8 0, .int .u8 0, .int .u8 0, .int .u8 0, .int .u8 0, .int .i64 0] 89)) (fun c => c) (fun c => c)))
  have HT := Lib.hid (show (w5.alloc (.cells #[.int .u8 0, .int .u8 0, .int .u8 0, .int .u8 0, .int .u8 0, .int .u8 0, .int .u8 0, .int .u8 0, .int .u8 0, .int .u8 0, .int .u8 0, .int .u8 0, .int .u8 0, .int .u8 0, .int .u8 0, .int .u8 0, .int .u8 0, .int .u8 0, .int .u8 0, .int .u8 0, .int .u8 0, .int .u8 0, .int .u8 0, .int .u8 0, .int .u8 0, .int .u8 0, .int .u8 0, .int .u8 0, .int .u8 0, .int .u8 0, .int .u8 0, .int .u8 0, .int .i64 0] 89)).there w5.heap.size 0 33 from fun j hj => ⟨by rw [bz.cell, Array.getElem?_eq_getElem (by simpa using hj)]; rfl, bz.free _⟩)
  have hs9 : x4.toArray.size = 33 := rfl
  have HS9 := Lib.hid hs9
  have nl : w5.heap.size ≠ lg := fun e => by have := H5.out.1.lt; omega
  have ng : w5.heap.size ≠ g := fun e => by have := H5.out.2.1.d.lt; omega
  have nr : w5.heap.size ≠ gr := fun e => by have := H5.out.2.1.r.lt; omega
  have HNE := Lib.hid (And.intro nl (And.intro ng nr))
  clear bz hs9 nl ng nr
  go_wp2_with (first
    | (refine wpList_store_mid rfl 89 (.tmp 5) (.tmp 27) rfl w5.heap.size 0 x4.toArray rfl rfl (by rw [HS9.out]; exact HT.out) (by rw [List.size_toArray]; exact grey_info x4_ele.1) (all_oneCell_toArray x4_ele.2) ?_
       simp only [List.toList_toArray]
       have hr9 := World.rangeAt_setCells_same (w5.alloc (.cells #[.int .u8 0, .int .u8 0, .int .u8 0, .int .u8 0, .int .u8 0, .int .u8 0, .int .u8 0, .int .u8 0, .int .u8 0, .int .u8 0, .int .u8 0, .int .u8 0, .int .u8 0, .int .u8 0, .int .u8 0, .int .u8 0, .int .u8 0, .int .u8 0, .int .u8 0, .int .u8 0, .int .u8 0, .int .u8 0, .int .u8 0, .int .u8 0, .int .u8 0, .int .u8 0, .int .u8 0, .int .u8 0, .int .u8 0, .int .u8 0, .int .u8 0, .int .u8 0, .int .i64 0] 89)) w5.heap.size 0 x4 HT.out
       have mS : Mod (one w5.heap.size) (w5.alloc (.cells #[.int .u8 0, .int .u8 0, .int .u8 0, .int .u8 0, .int .u8 0, .int .u8 0, .int .u8 0, .int .u8 0, .int .u8 0, .int .u8 0, .int .u8 0, .int .u8 0, .int .u8 0, .int .u8 0, .int .u8 0, .int .u8 0, .int .u8 0, .int .u8 0, .int .u8 0, .int .u8 0, .int .u8 0, .int .u8 0, .int .u8 0, .int .u8 0, .int .u8 0, .int .u8 0, .int .u8 0, .int .u8 0, .int .u8 0, .int .u8 0, .int .u8 0, .int .u8 0, .int .i64 0] 89)) ((w5.alloc (.cells #[.int .u8 0, .int .u8 0, .int .u8 0, .int .u8 0, .int .u8 0, .int .u8 0, .int .u8 0, .int .u8 0, .int .u8 0, .int .u8 0, .int .u8 0, .int .u8 0, .int .u8 0, .int .u8 0, .int .u8 0, .int .u8 0, .int .u8 0, .int .u8 0, .int .u8 0, .int .u8 0, .int .u8 0, .int .u8 0, .int .u8 0, .int .u8 0, .int .u8 0, .int .u8 0, .int .u8 0, .int .u8 0, .int .u8 0, .int .u8 0, .int .u8 0, .int .u8 0, .int .i64 0] 89)).setCells w5.heap.size 0 x4) := mod_setCells (S := one w5.heap.size) (show one w5.heap.size w5.heap.size from rfl) x4 0 _ (Mod.refl _ _)
       have hkr : ((w5.alloc (.cells #[.int .u8 0, .int .u8 0, .int .u8 0, .int .u8 0, .int .u8 0, .int .u8 0, .int .u8 0, .int .u8 0, .int .u8 0, .int .u8 0, .int .u8 0, .int .u8 0, .int .u8 0, .int .u8 0, .int .u8 0, .int .u8 0, .int .u8 0, .int .u8 0, .int .u8 0, .int .u8 0, .int .u8 0, .int .u8 0, .int .u8 0, .int .u8 0, .int .u8 0, .int .u8 0, .int .u8 0, .int .u8 0, .int .u8 0, .int .u8 0, .int .u8 0, .int .u8 0, .int .i64 0] 89)).setCells w5.heap.size 0 x4).rangeAt w5.heap.size 0 k4 := fun j v hv => by
         refine hr9 j v ?_
         have hj := (List.getElem?_eq_some_iff.1 hv).1
         rw [show x4 = k4 ++ [.int .i64 0] from rfl, List.getElem?_append_left hj]; exact hv
       have HKR := Lib.hid hkr
       have HFN := Lib.hid (And.intro (HA.out.1.mod mS (fun c => HNE.out.1 c.symm)) (And.intro (HA.out.2.mod mS (fun c => HNE.out.2.1 c.symm) (fun c => HNE.out.2.2 c.symm)) (HZ.out.2.trans mS fun b hb c => by have c : b = w5.heap.size := c; have := H5.out.2.2.size; omega)))
       clear hr9 mS hkr
       generalize (w5.alloc (.cells #[.int .u8 0, .int .u8 0, .int .u8 0, .int .u8 0, .int .u8 0, .int .u8 0, .int .u8 0, .int .u8 0, .int .u8 0, .int .u8 0, .int .u8 0, .int .u8 0, .int .u8 0, .int .u8 0, .int .u8 0, .int .u8 0, .int .u8 0, .int .u8 0, .int .u8 0, .int .u8 0, .int .u8 0, .int .u8 0, .int .u8 0, .int .u8 0, .int .u8 0, .int .u8 0, .int .u8 0, .int .u8 0, .int .u8 0, .int .u8 0, .int .u8 0, .int .u8 0, .int .i64 0] 89)).setCells w5.heap.size 0 x4 = w9 at *)
    | (refine wpList_load_midG rfl 39 (.tmp 38) rfl w5.heap.size 0 rfl k4 _ HKR.out Try.underlying39 rfl key_info ?_)
    | (go_at_call 18; refine (llen_any HFN.out.1 HFN.out.2.1).mono ?_; rintro e w' ⟨rfl, rfl⟩))
  go_ret
  exact ⟨rfl, HFN.out.2.2⟩


end Go.Proofs.Ytknbehjhaaidoaa.DG
