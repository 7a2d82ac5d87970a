/- The row with two ends, of work list's entries: what reads; a new one; the work list (printed by greyat.py). -/
import Derived.Test.YtknbehjhaaidoaaDgQ
namespace Go.Proofs.Ytknbehjhaaidoaa.DG
open Go.RowKit Mem DQ
set_option linter.unusedVariables false
set_option linter.unusedSimpArgs false

theorem y_assign {a : Act} {o : Oper} {w : World} {x : Operand} {v : Value} (ho : o.op = .assign x) (hx : a.eval x = v) : (execOp a.eval o).run Try.prog w = .ok (.value v) w := by
  unfold execOp
  simp only [ho, Sem.run_bind, Sem.run_pure, Result.andThen_ok, hx]

/-- Two results, the first of them in a variable's cells. -/
theorem grey_done {w9 : World} {q : Nat} {x : List Value} {v : Value} {c t : Tmp} (hx : x.length = 33) (hr9 : w9.rangeAt q 0 x) (a : Act) (h4 : a.tmps[c]? = some (.pointer (some ⟨q, 0, none⟩))) (h5 : a.tmps[t]? = some v) (hd : a.defers = []) (fn : Func) (hr : fn.results = #[.cell c 89, .tmp t]) (R : Ending → World → Prop) (h : R (.returned (.tuple #[.agg x.toArray, v])) w9) :
    bodyPost Try.prog fn R Exit.ret a w9 := by
  have hload := run_loadVar_mid (P := Try.prog) w9 q 0 89 x _ hr9 Try.underlying89 rfl (grey_info hx)
  refine bodyPost_ret (v := .tuple #[.agg x.toArray, v]) ?_ hd h
  simp [results, hr, h4, h5, asAddr, hload]

set_option maxRecDepth 100000 in
set_option maxHeartbeats 4000000 in
theorem at_has {w : World} {g gr f p i : Nat} {C L : List (List Value)} {x : List Value} (H : DgAt w g gr C f L) (hx : L[i]? = some x) (hp : p = (f + i) % C.length) :
    Calls Try.prog 74 #[.pointer (some ⟨g, 0, none⟩), .int .i64 (i : Int)] w fun e w' => e = .returned (.tuple #[.agg x.toArray, .bool true]) ∧ Mod no w w' := by
  have hne := H.ne
  have hil := (List.getElem?_eq_some_iff.1 hx).1
  have hsz := H.h.size
  have hfr := H.h.from_
  have hcb := H.b
  have hcx : C[p]? = some x := by rw [hp]; exact H.h.at_ i x hx
  have hpl : p < C.length := (List.getElem?_eq_some_iff.1 hcx).1
  have hel := H.e x (List.mem_of_getElem? hcx)
  have HF := Lib.hid (show f ≤ 10000000 ∧ i ≤ 10000000 ∧ 0 < C.length ∧ C.length ≤ 10000000 by omega)
  have HP := Lib.hid (And.intro hp (And.intro hpl (And.intro hcx hel)))
  have hii : ¬ (L.length : Int) ≤ (i : Int) := by omega
  have hi0 : ¬ (i : Int) < 0 := by omega
  have hgl := H.d.lt
  have hgrl := H.r.lt
  have HH := Lib.hid H
  clear H hx hp hpl hil hsz hfr hcb hcx hel
  go_enter Try.func74, Try.ntmps74
  go_wp2_with fail
  have m0 : Mod no w ((w.alloc (.cells #[.int .u8 0, .int .u8 0, .int .u8 0, .int .u8 0, .int .u8 0, .int .u8 0, .int .u8 0, .int .u8 0, .int .u8 0, .int .u8 0, .int .u8 0, .int .u8 0, .int .u8 0, .int .u8 0, .int .u8 0, .int .u8 0, .int .u8 0, .int .u8 0, .int .u8 0, .int .u8 0, .int .u8 0, .int .u8 0, .int .u8 0, .int .u8 0, .int .u8 0, .int .u8 0, .int .u8 0, .int .u8 0, .int .u8 0, .int .u8 0, .int .u8 0, .int .u8 0, .int .i64 0] 89)).alloc (.cells #[.int .u8 0, .int .u8 0, .int .u8 0, .int .u8 0, .int .u8 0, .int .u8 0, .int .u8 0, .int .u8 0, .int .u8 0, .int .u8 0, .int .u8 0, .int .u8 0, .int .u8 0, .int .u8 0, .int .u8 0, .int .u8 0, .int .u8 0, .int .u8 0, .int .u8 0, .int .u8 0, .int .u8 0, .int .u8 0, .int .u8 0, .int .u8 0, .int .u8 0, .int .u8 0, .int .u8 0, .int .u8 0, .int .u8 0, .int .u8 0, .int .u8 0, .int .u8 0, .int .i64 0] 89)) := ((Mod.refl no w).alloc _).alloc _
  have bz : Blk ((w.alloc (.cells #[.int .u8 0, .int .u8 0, .int .u8 0, .int .u8 0, .int .u8 0, .int .u8 0, .int .u8 0, .int .u8 0, .int .u8 0, .int .u8 0, .int .u8 0, .int .u8 0, .int .u8 0, .int .u8 0, .int .u8 0, .int .u8 0, .int .u8 0, .int .u8 0, .int .u8 0, .int .u8 0, .int .u8 0, .int .u8 0, .int .u8 0, .int .u8 0, .int .u8 0, .int .u8 0, .int .u8 0, .int .u8 0, .int .u8 0, .int .u8 0, .int .u8 0, .int .u8 0, .int .i64 0] 89)).alloc (.cells #[.int .u8 0, .int .u8 0, .int .u8 0, .int .u8 0, .int .u8 0, .int .u8 0, .int .u8 0, .int .u8 0, .int .u8 0, .int .u8 0, .int .u8 0, .int .u8 0, .int .u8 0, .int .u8 0, .int .u8 0, .int .u8 0, .int .u8 0, .int .u8 0, .int .u8 0, .int .u8 0, .int .u8 0, .int .u8 0, .int .u8 0, .int .u8 0, .int .u8 0, .int .u8 0, .int .u8 0, .int .u8 0, .int .u8 0, .int .u8 0, .int .u8 0, .int .u8 0, .int .i64 0] 89)) w.heap.size 89 #[.int .u8 0, .int .u8 0, .int .u8 0, .int .u8 0, .int .u8 0, .int .u8 0, .int .u8 0, .int .u8 0, .int .u8 0, .int .u8 0, .int .u8 0, .int .u8 0, .int .u8 0, .int .u8 0, .int .u8 0, .int .u8 0, .int .u8 0, .int .u8 0, .int .u8 0, .int .u8 0, .int .u8 0, .int .u8 0, .int .u8 0, .int .u8 0, .int .u8 0, .int .u8 0, .int .u8 0, .int .u8 0, .int .u8 0, .int .u8 0, .int .u8 0, .int .u8 0, .int .i64 0] := (Blk.new w _ _).alloc _
  generalize ((w.alloc (.cells #[.int .u8 0, .int .u8 0, .int .u8 0, .int .u8 0, .int .u8 0, .int .u8 0, .int .u8 0, .int .u8 0, .int .u8 0, .int .u8 0, .int .u8 0, .int .u8 0, .int .u8 0, .int .u8 0, .int .u8 0, .int .u8 0, .int .u8 0, .int .u8 0, .int .u8 0, .int .u8 0, .int .u8 0, .int .u8 0, .int .u8 0, .int .u8 0, .int .u8 0, .int .u8 0, .int .u8 0, .int .u8 0, .int .u8 0, .int .u8 0, .int .u8 0, .int .u8 0, .int .i64 0] 89)).alloc (.cells #[.int .u8 0, .int .u8 0, .int .u8 0, .int .u8 0, .int .u8 0, .int .u8 0, .int .u8 0, .int .u8 0, .int .u8 0, .int .u8 0, .int .u8 0, .int .u8 0, .int .u8 0, .int .u8 0, .int .u8 0, .int .u8 0, .int .u8 0, .int .u8 0, .int .u8 0, .int .u8 0, .int .u8 0, .int .u8 0, .int .u8 0, .int .u8 0, .int .u8 0, .int .u8 0, .int .u8 0, .int .u8 0, .int .u8 0, .int .u8 0, .int .u8 0, .int .u8 0, .int .i64 0] 89)) = wz at *
  have H1 := Lib.hid (And.intro (HH.out.mod m0 (fun c => c) (fun c => c)) (And.intro bz m0))
  clear m0 bz
  refine (len_any H1.out.1).mono ?_
  rintro e w' ⟨rfl, rfl⟩
  go_wp2_with fail
  have HD := Lib.hid (And.intro (H1.out.1.mod ((Mod.refl no wz).drew) (fun c => c) (fun c => c)) (And.intro H1.out.2.1.drew H1.out.2.2.drew))
  have hk1 : w.heap.size ≠ g := by omega
  have hk2 : w.heap.size ≠ gr := by omega
  refine wp_region_held_drew (S := fun w' => w'.cell? ⟨g, 1, none⟩ = some (.slice (some ⟨gr, 0, none⟩) C.length C.length) ∧ w'.rangeAt gr (p * 33) x) (by kernel_rfl) ⟨by rw [HD.out.1.d.cell]; rfl, HD.out.1.range HP.out.2.2.1⟩ (fun hHeld => ?_)
  refine takeD (i := 0) (d := some 16) (v := (.pointer (some ⟨g, 0, none⟩))) rfl (by kernel_rfl) (by kernel_rfl) (by kernel_rfl) rfl (fun _ _ _ h => h) (Or.inl ⟨by kernel_rfl, fun w hw => y_move rfl rfl⟩) hHeld ?_
  simp only [Act.put, List.setIfInBounds_toArray, List.set_cons_zero, List.set_cons_succ]
  refine takeD (i := 1) (d := some 17) (v := (.pointer (some ⟨g, 0, none⟩))) rfl (by kernel_rfl) (by kernel_rfl) (by kernel_rfl) rfl (fun _ _ _ h => h) (Or.inl ⟨by kernel_rfl, fun w hw => y_nil rfl rfl⟩) hHeld ?_
  simp only [Act.put, List.setIfInBounds_toArray, List.set_cons_zero, List.set_cons_succ]
  refine takeD (i := 2) (d := some 18) (v := (.pointer (some ⟨g, 1, none⟩))) rfl (by kernel_rfl) (by kernel_rfl) (by kernel_rfl) rfl (fun _ _ _ h => h) (Or.inl ⟨by kernel_rfl, fun w hw => y_ring rfl rfl⟩) hHeld ?_
  simp only [Act.put, List.setIfInBounds_toArray, List.set_cons_zero, List.set_cons_succ]
  refine takeD (i := 3) (d := some 19) (v := (.slice (some ⟨gr, 0, none⟩) C.length C.length)) rfl (by kernel_rfl) (by kernel_rfl) (by kernel_rfl) rfl (fun _ _ _ h => h) (Or.inl ⟨by kernel_rfl, fun w hw => y_load rfl (.inr rfl) rfl hw.1 rfl⟩) hHeld ?_
  simp only [Act.put, List.setIfInBounds_toArray, List.set_cons_zero, List.set_cons_succ]
  refine takeD (i := 4) (d := some 20) (v := (.pointer (some ⟨g, 0, none⟩))) rfl (by kernel_rfl) (by kernel_rfl) (by kernel_rfl) rfl (fun _ _ _ h => h) (Or.inl ⟨by kernel_rfl, fun w hw => y_move rfl rfl⟩) hHeld ?_
  simp only [Act.put, List.setIfInBounds_toArray, List.set_cons_zero, List.set_cons_succ]
  refine takeD (i := 5) (d := some 21) (v := (.int .i64 (i : Int))) rfl (by kernel_rfl) (by kernel_rfl) (by kernel_rfl) rfl (fun _ _ _ h => h) (Or.inl ⟨by kernel_rfl, fun w hw => y_move rfl rfl⟩) hHeld ?_
  simp only [Act.put, List.setIfInBounds_toArray, List.set_cons_zero, List.set_cons_succ]
  refine readyD (i := 6) (d := some 22) rfl (by kernel_rfl) rfl (by kernel_rfl) fun K hK => ?_
  refine op_place rfl rfl rfl (place_any HP.out.1 HD.out.1.d HF.out.1 HF.out.2.1 HF.out.2.2.1 HF.out.2.2.2) ?_
  rintro e w3 ⟨rfl, n3, hw3⟩
  have m3 : Mod no wz.drew w3 := by rw [hw3]; exact (Mod.refl no _).drewN n3
  have H3 := Lib.hid (And.intro (HD.out.1.mod m3 (fun c => c) (fun c => c)) (And.intro (HD.out.2.1.mod m3 (fun c => c)) (HD.out.2.2.and_then m3)))
  refine ⟨_, rfl, hK _ _ ⟨by rw [H3.out.1.d.cell]; rfl, H3.out.1.range HP.out.2.2.1⟩ fun hHeld3 => ?_⟩
  clear hK K hw3 m3 hHeld
  have hHeld := hHeld3
  clear hHeld3
  simp only [Act.put, List.setIfInBounds_toArray, List.set_cons_zero, List.set_cons_succ]
  refine takeD (i := 7) (d := some 23) (v := (.pointer (some ⟨gr, p * 33, none⟩))) rfl (by kernel_rfl) (by kernel_rfl) (by kernel_rfl) rfl (fun _ _ _ h => h) (Or.inl ⟨by kernel_rfl, fun w hw => y_index rfl rfl rfl HP.out.2.1⟩) hHeld ?_
  simp only [Act.put, List.setIfInBounds_toArray, List.set_cons_zero, List.set_cons_succ]
  refine takeD (i := 8) (d := some 24) (v := (.agg x.toArray)) rfl (by kernel_rfl) (by kernel_rfl) (by kernel_rfl) rfl (fun _ _ _ h => h) (Or.inl ⟨by kernel_rfl, fun w hw => y_mid rfl rfl hw.2 HP.out.2.2.2.1⟩) hHeld ?_
  simp only [Act.put, List.setIfInBounds_toArray, List.set_cons_zero, List.set_cons_succ]
  refine readyD (i := 9) (d := none) rfl (by kernel_rfl) rfl (by kernel_rfl) fun K hK => ?_
  have hth : w3.there w.heap.size 0 33 := fun j hj => ⟨by rw [H3.out.2.1.cell, Array.getElem?_eq_getElem (by simpa using hj)]; rfl, H3.out.2.1.free _⟩
  have hs9 : x.toArray.size = 33 := by rw [List.size_toArray]; exact HP.out.2.2.2.1
  refine wp_store_mid 89 (.tmp 4) (.tmp 24) rfl w.heap.size 0 x.toArray rfl rfl (by rw [hs9]; exact hth) (by rw [List.size_toArray]; exact grey_info HP.out.2.2.2.1) (all_oneCell_toArray HP.out.2.2.2.2) ?_
  simp only [List.toList_toArray]
  have mS : Mod (one w.heap.size) w3 (w3.setCells w.heap.size 0 x) := mod_setCells (S := one w.heap.size) (show one w.heap.size w.heap.size from rfl) x _ _ (Mod.refl _ _)
  have hd4 := H3.out.1.mod mS (fun c => hk1 c.symm) (fun c => hk2 c.symm)
  have hr4 := World.rangeAt_setCells_same w3 w.heap.size 0 x (by rw [HP.out.2.2.2.1]; exact hth)
  have mW : Mod no w (w3.setCells w.heap.size 0 x) := H3.out.2.2.trans mS fun b hb c => by have c : b = w.heap.size := c; omega
  refine hK _ _ ⟨by rw [hd4.d.cell]; rfl, hd4.range HP.out.2.2.1⟩ fun hHeld4 => ?_
  have H4 := Lib.hid (And.intro hr4 mW)
  clear hK K hHeld mS hd4 hr4 mW hth
  have hHeld := hHeld4
  clear hHeld4
  simp only [Act.put, List.setIfInBounds_toArray, List.set_cons_zero, List.set_cons_succ]
  refine takeD (i := 10) (d := some 5) (v := (.bool true)) rfl (by kernel_rfl) (by kernel_rfl) (by kernel_rfl) rfl (fun _ _ _ h => h) (Or.inl ⟨by kernel_rfl, fun w hw => y_assign rfl rfl⟩) hHeld ?_
  simp only [Act.put, List.setIfInBounds_toArray, List.set_cons_zero, List.set_cons_succ]
  refine wpAnyH_done (by kernel_rfl) ?_ _
  clear H3 HD
  generalize w3.setCells w.heap.size 0 x = w4 at *
  go_wp2_with fail
  refine grey_done HP.out.2.2.2.1 H4.out.1 _ rfl rfl rfl _ Try.results74 _ ⟨rfl, H4.out.2⟩

end Go.Proofs.Ytknbehjhaaidoaa.DG
