/- The row with two ends, of work list's entries: what puts (where there is room), what reads; a new one. -/
import Derived.Test.YtknbehjhaaidoaaDgP
namespace Go.Proofs.Ytknbehjhaaidoaa.DG
open Go.RowKit Mem DQ
set_option linter.unusedVariables false
set_option linter.unusedSimpArgs false

def RetP (R : Act → World → Prop) : Exit → Act → World → Prop
  | .normal, a, w => R a w
  | _, _, _ => False

set_option maxRecDepth 100000 in
set_option maxHeartbeats 2000000 in
theorem room_has {w : World} {g gr f : Nat} {C L : List (List Value)} (H : DgAt w g gr C f L) (hlt : L.length < C.length) :
    Calls Try.prog 99 #[.pointer (some ⟨g, 0, none⟩)] w fun e w' => e = .returned (.tuple #[]) ∧ ∃ n, w' = w.drewN n := by
  have c1 := H.d.cell 1
  have c3 := H.d.cell 3
  simp at c1 c3
  clear H
  go_enter Try.func99, Try.ntmps99
  go_wp2_with fail
  go_quiet (fail)
  go_wp2_with fail
  refine bodyPost_ret (v := .tuple #[]) (results_none rfl _ _ _) rfl ?_
  exact ⟨rfl, nq, rfl⟩

set_option maxRecDepth 100000 in
set_option maxHeartbeats 4000000 in
theorem push_top {w : World} {g gr f p : Nat} {C L : List (List Value)} {x : List Value} (H : DgAt w g gr C f L) (hx : Ele x) (hlt : L.length < C.length) (hp : p = (f + L.length) % C.length) :
    Calls Try.prog 73 #[.pointer (some ⟨g, 0, none⟩), .agg x.toArray] w fun e w' => e = .returned (.tuple #[]) ∧ DgAt w' g gr (C.set p x) f (L ++ [x]) ∧ Mod (two g gr) w w' := by
  have hne := H.ne
  have hne' : gr ≠ g := fun e => hne e.symm
  have hpl : p < C.length := by rw [hp]; exact place_lt H.h.from_
  have hfr := H.h.from_
  have hcb := H.b
  have HF := Lib.hid (show f ≤ 10000000 ∧ L.length ≤ 10000000 ∧ 0 < C.length ∧ C.length ≤ 10000000 by omega)
  have hw64 : wrap64 ((L.length : Int) + 1) = (L.length : Int) + 1 := IntWalk.wrap64_in _ (by have := HF.out; omega)
  have HP := Lib.hid (And.intro hp (And.intro hpl (And.intro hlt hx)))
  have H0 := Lib.hid (And.intro (H.mod ((Mod.refl no w).alloc (.cells x.toArray 89)) (fun c => c) (fun c => c)) (And.intro (Blk.new w 89 x.toArray) ((Mod.refl no w).alloc (.cells x.toArray 89))))
  have hgl := H.d.lt
  have hgrl := H.r.lt
  clear H hx hlt hp hpl hfr hcb
  go_enter Try.func73, Try.ntmps73
  go_wp2_with fail
  refine (there_any H0.out.1.d).mono ?_
  rintro e w' ⟨rfl, rfl⟩
  go_wp2_with fail
  refine (room_has H0.out.1 HP.out.2.2.1).mono ?_
  rintro e w2 ⟨rfl, n2, hw2⟩
  have m2 : Mod no (w.alloc (.cells x.toArray 89)) w2 := by rw [hw2]; exact (Mod.refl no _).drewN n2
  have H2 := Lib.hid (And.intro (H0.out.1.mod m2 (fun c => c) (fun c => c)) (And.intro (H0.out.2.1.mod m2 (fun c => c)) (H0.out.2.2.and_then m2)))
  clear m2 hw2
  go_wp2_with fail
  have m2d : Mod no w w2.drew := H2.out.2.2.drew
  have d2d := H2.out.1.mod ((Mod.refl no w2).drew) (fun c => c) (fun c => c)
  have HD := Lib.hid (And.intro d2d m2d)
  refine wp_region_held_drew (S := fun w' => Blk w' g 121 #[.bool true, .slice (some ⟨gr, 0, none⟩) C.length C.length, .int .i64 (f : Int), .int .i64 (L.length : Int)] ∧ Blk w' w.heap.size 89 x.toArray) (by kernel_rfl) ⟨d2d.d, H2.out.2.1.drew⟩ (fun hHeld => ?_)
  clear m2d d2d
  refine takeD (i := 0) (d := some 8) (v := (.pointer (some ⟨g, 0, none⟩))) rfl (by kernel_rfl) (by kernel_rfl) (by kernel_rfl) rfl (fun _ _ _ h => h) (Or.inl ⟨by kernel_rfl, fun w hw => y_move rfl rfl⟩) hHeld ?_
  simp only [Act.put, List.setIfInBounds_toArray, List.set_cons_zero, List.set_cons_succ]
  refine takeD (i := 1) (d := some 9) (v := (.pointer (some ⟨g, 0, none⟩))) rfl (by kernel_rfl) (by kernel_rfl) (by kernel_rfl) rfl (fun _ _ _ h => h) (Or.inl ⟨by kernel_rfl, fun w hw => y_nil rfl rfl⟩) hHeld ?_
  simp only [Act.put, List.setIfInBounds_toArray, List.set_cons_zero, List.set_cons_succ]
  refine takeD (i := 2) (d := some 10) (v := (.pointer (some ⟨g, 1, none⟩))) rfl (by kernel_rfl) (by kernel_rfl) (by kernel_rfl) rfl (fun _ _ _ h => h) (Or.inl ⟨by kernel_rfl, fun w hw => y_ring rfl rfl⟩) hHeld ?_
  simp only [Act.put, List.setIfInBounds_toArray, List.set_cons_zero, List.set_cons_succ]
  refine takeD (i := 3) (d := some 11) (v := (.slice (some ⟨gr, 0, none⟩) C.length C.length)) rfl (by kernel_rfl) (by kernel_rfl) (by kernel_rfl) rfl (fun _ _ _ h => h) (Or.inl ⟨by kernel_rfl, fun w hw => y_load rfl (.inr rfl) rfl (by rw [hw.1.cell]; rfl) rfl⟩) hHeld ?_
  simp only [Act.put, List.setIfInBounds_toArray, List.set_cons_zero, List.set_cons_succ]
  refine takeD (i := 4) (d := some 12) (v := (.pointer (some ⟨g, 0, none⟩))) rfl (by kernel_rfl) (by kernel_rfl) (by kernel_rfl) rfl (fun _ _ _ h => h) (Or.inl ⟨by kernel_rfl, fun w hw => y_move rfl rfl⟩) hHeld ?_
  simp only [Act.put, List.setIfInBounds_toArray, List.set_cons_zero, List.set_cons_succ]
  refine takeD (i := 5) (d := some 13) (v := (.pointer (some ⟨g, 0, none⟩))) rfl (by kernel_rfl) (by kernel_rfl) (by kernel_rfl) rfl (fun _ _ _ h => h) (Or.inl ⟨by kernel_rfl, fun w hw => y_move rfl rfl⟩) hHeld ?_
  simp only [Act.put, List.setIfInBounds_toArray, List.set_cons_zero, List.set_cons_succ]
  refine takeD (i := 6) (d := some 14) (v := (.pointer (some ⟨g, 0, none⟩))) rfl (by kernel_rfl) (by kernel_rfl) (by kernel_rfl) rfl (fun _ _ _ h => h) (Or.inl ⟨by kernel_rfl, fun w hw => y_nil rfl rfl⟩) hHeld ?_
  simp only [Act.put, List.setIfInBounds_toArray, List.set_cons_zero, List.set_cons_succ]
  refine takeD (i := 7) (d := some 15) (v := (.pointer (some ⟨g, 3, none⟩))) rfl (by kernel_rfl) (by kernel_rfl) (by kernel_rfl) rfl (fun _ _ _ h => h) (Or.inl ⟨by kernel_rfl, fun w hw => y_size rfl rfl⟩) hHeld ?_
  simp only [Act.put, List.setIfInBounds_toArray, List.set_cons_zero, List.set_cons_succ]
  refine takeD (i := 8) (d := some 16) (v := (.int .i64 (L.length : Int))) rfl (by kernel_rfl) (by kernel_rfl) (by kernel_rfl) rfl (fun _ _ _ h => h) (Or.inl ⟨by kernel_rfl, fun w hw => y_load rfl (.inl rfl) rfl (by rw [hw.1.cell]; rfl) rfl⟩) hHeld ?_
  simp only [Act.put, List.setIfInBounds_toArray, List.set_cons_zero, List.set_cons_succ]
  refine takeD (i := 10) (d := some 18) (v := (.agg x.toArray)) rfl (by kernel_rfl) (by kernel_rfl) (by kernel_rfl) rfl (fun _ _ _ h => h) (Or.inl ⟨by kernel_rfl, fun w hw => y_mid rfl rfl (fun j v hv => by rw [hw.2.cell, Nat.zero_add, List.getElem?_toArray]; exact hv) HP.out.2.2.2.1⟩) hHeld ?_
  simp only [Act.put, List.setIfInBounds_toArray, List.set_cons_zero, List.set_cons_succ]
  refine readyD (i := 9) (d := some 17) rfl (by kernel_rfl) rfl (by kernel_rfl) fun K hK => ?_
  refine op_place rfl rfl rfl (place_any HP.out.1 hHeld.1 HF.out.1 HF.out.2.1 HF.out.2.2.1 HF.out.2.2.2) ?_
  rintro e w3 ⟨rfl, n3, hw3⟩
  have m3 : Mod no w2.drew w3 := by rw [hw3]; exact (Mod.refl no _).drewN n3
  refine ⟨_, rfl, hK _ _ ⟨hHeld.1.mod m3 (fun c => c), hHeld.2.mod m3 (fun c => c)⟩ fun hHeld3 => ?_⟩
  have H3 := Lib.hid (And.intro (HD.out.1.mod m3 (fun c => c) (fun c => c)) (HD.out.2.and_then m3))
  clear hK K hw3 m3 hHeld
  have hHeld := hHeld3
  clear hHeld3
  simp only [Act.put, List.setIfInBounds_toArray, List.set_cons_zero, List.set_cons_succ]
  refine takeD (i := 11) (d := some 19) (v := (.pointer (some ⟨gr, p * 33, none⟩))) rfl (by kernel_rfl) (by kernel_rfl) (by kernel_rfl) rfl (fun _ _ _ h => h) (Or.inl ⟨by kernel_rfl, fun w hw => y_index rfl rfl rfl HP.out.2.1⟩) hHeld ?_
  simp only [Act.put, List.setIfInBounds_toArray, List.set_cons_zero, List.set_cons_succ]
  refine readyD (i := 12) (d := none) rfl (by kernel_rfl) rfl (by kernel_rfl) fun K hK => ?_
  refine wp_store_mid 89 (.tmp 19) (.tmp 18) rfl gr (p * 33) x.toArray rfl rfl (by rw [List.size_toArray, HP.out.2.2.2.1]; exact H3.out.1.there HP.out.2.1) (by rw [List.size_toArray]; exact grey_info HP.out.2.2.2.1) (all_oneCell_toArray HP.out.2.2.2.2) ?_
  have mS : Mod (one gr) w3 (w3.setCells gr (p * 33) x) := mod_setCells (S := one gr) (show one gr gr from rfl) x _ _ (Mod.refl _ _)
  have hk : ¬ one gr w.heap.size := fun c => by have c : w.heap.size = gr := c; omega
  refine hK _ _ ⟨hHeld.1.mod mS hne, hHeld.2.mod mS hk⟩ fun _ => ?_
  have H4 := Lib.hid (And.intro (hHeld.1.mod mS hne) (And.intro (H3.out.1.put HP.out.2.1 HP.out.2.2.2) ((H3.out.2.mono (S' := two g gr) (fun _ _ c => c.elim)).and_then (mS.mono (S' := two g gr) (fun _ _ c => .inr c)))))
  have hd4 := hHeld.1.mod mS hne
  have e3 := hd4.cell 3
  have g3 := hd4.free 3
  simp at e3
  clear hK K hHeld mS hk hd4
  refine wpAnyH_done (by kernel_rfl) ?_ _
  have hHE := Lib.hid H3.out.1
  simp only [Act.put, List.toList_toArray]
  clear H3
  generalize w3.setCells gr (p * 33) x = w4 at *
  go_wp2_with fail
  go_end0
  obtain ⟨h1, h2, h3⟩ := H4.out
  have hd5 := h1.put 3 (.int .i64 ((L.length : Int) + 1))
  simp at hd5
  have hr5 := h2.far (p := ⟨g, 3, none⟩) hne' (.int .i64 ((L.length : Int) + 1))
  have hh := hHE.out.h.push_top HP.out.2.2.1 x
  rw [← HP.out.1] at hh
  refine ⟨rfl, ⟨?_, hr5, ele_set hHE.out.e HP.out.2.2.2, hh, by rw [List.length_set]; exact hHE.out.b⟩, h3.set (p := ⟨g, 3, none⟩) (fun _ => .inl rfl) _⟩
  rw [List.length_set, List.length_append]
  exact hd5

end Go.Proofs.Ytknbehjhaaidoaa.DG
