/- The row with two ends, of work list's entries: another entry at a place; one more (printed by greyset.py). -/
import Derived.Test.YtknbehjhaaidoaaDgV
namespace Go.Proofs.Ytknbehjhaaidoaa.DG
open Go.RowKit Mem DQ
set_option linter.unusedVariables false
set_option linter.unusedSimpArgs false

theorem holds_set {α : Type} {C L : List α} {f i : Nat} (h : Holds C f L) (hi : i < L.length) (x : α) : Holds (C.set ((f + i) % C.length) x) f (L.set i x) := by
  have hs := h.size
  refine ⟨by rw [List.length_set]; exact h.from_, by rw [List.length_set, List.length_set]; exact hs, fun j y hy => ?_⟩
  rw [List.length_set]
  by_cases hij : i = j
  · subst hij
    rw [List.getElem?_set_self hi] at hy
    injection hy with hy
    subst hy
    rw [List.getElem?_set_self (place_lt h.from_)]
  · rw [List.getElem?_set_ne hij] at hy
    have hj := (List.getElem?_eq_some_iff.1 hy).1
    rw [List.getElem?_set_ne (fun e => hij (place_inj h.from_ (by omega) (by omega) e))]
    exact h.at_ j y hy

set_option maxRecDepth 100000 in
set_option maxHeartbeats 4000000 in
theorem set_any {w : World} {g gr i : Nat} {L : List (List Value)} {x : List Value} (h : GAt w g gr L) (hx : Ele x) (hi : i < L.length) :
    Calls Try.prog 78 #[.pointer (some ⟨g, 0, none⟩), .int .i64 (i : Int), .agg x.toArray] w fun e w' => e = .returned (.bool true) ∧ GAt w' g gr (L.set i x) ∧ Mod (two g gr) w w' := by
  obtain ⟨C, f, H, hc1, hc2⟩ := h
  obtain ⟨p, hp⟩ : ∃ p, p = (f + i) % C.length := ⟨_, rfl⟩
  have hpl : p < C.length := by rw [hp]; exact place_lt H.h.from_
  have hfr := H.h.from_
  have hcb := H.b
  have hsz := H.h.size
  have hne := H.ne
  have hne' : gr ≠ g := fun e => hne e.symm
  have hh := holds_set H.h hi x
  rw [← hp] at hh
  have hii : ¬ (L.length : Int) ≤ (i : Int) := by omega
  have hi0 : ¬ (i : Int) < 0 := by omega
  have HF := Lib.hid (show f ≤ 10000000 ∧ i ≤ 10000000 ∧ 0 < C.length ∧ C.length ≤ 10000000 by omega)
  have HP := Lib.hid (And.intro hp (And.intro hpl (And.intro hx (And.intro hh (And.intro hc1 (And.intro hc2 (And.intro hcb H.e)))))))
  have hgl := H.d.lt
  have hgrl := H.r.lt
  have H0 := Lib.hid (And.intro (H.mod ((Mod.refl no w).alloc (.cells x.toArray 89)) (fun c => c) (fun c => c)) (And.intro (Blk.new w 89 x.toArray) ((Mod.refl no w).alloc (.cells x.toArray 89))))
  clear H hx hp hpl hfr hcb hsz hh hc1 hc2 hi
  go_enter Try.func78, Try.ntmps78
  go_wp2_with fail
  refine (len_any H0.out.1).mono ?_
  rintro e w2 ⟨rfl, rfl⟩
  go_wp2_with fail
  generalize w.alloc (.cells x.toArray 89) = w2 at *
  have m2d : Mod no w w2.drew := H0.out.2.2.drew
  have d2d := H0.out.1.mod ((Mod.refl no w2).drew) (fun c => c) (fun c => c)
  have HD := Lib.hid (And.intro d2d m2d)
  refine wp_region_held_drew (S := fun w' => Blk w' g 121 #[.bool true, .slice (some ⟨gr, 0, none⟩) C.length C.length, .int .i64 (f : Int), .int .i64 (L.length : Int)] ∧ Blk w' w.heap.size 89 x.toArray) (by kernel_rfl) ⟨d2d.d, H0.out.2.1.drew⟩ (fun hHeld => ?_)
  clear m2d d2d
  refine takeD (i := 0) (d := some 15) (v := (.pointer (some ⟨g, 0, none⟩))) rfl (by kernel_rfl) (by kernel_rfl) (by kernel_rfl) rfl (fun _ _ _ h => h) (Or.inl ⟨by kernel_rfl, fun w9 hw => y_move rfl rfl⟩) hHeld ?_
  simp only [Act.put, List.setIfInBounds_toArray, List.set_cons_zero, List.set_cons_succ]
  refine takeD (i := 1) (d := some 16) (v := (.pointer (some ⟨g, 0, none⟩))) rfl (by kernel_rfl) (by kernel_rfl) (by kernel_rfl) rfl (fun _ _ _ h => h) (Or.inl ⟨by kernel_rfl, fun w9 hw => y_nil rfl rfl⟩) hHeld ?_
  simp only [Act.put, List.setIfInBounds_toArray, List.set_cons_zero, List.set_cons_succ]
  refine takeD (i := 2) (d := some 17) (v := (.pointer (some ⟨g, 1, none⟩))) rfl (by kernel_rfl) (by kernel_rfl) (by kernel_rfl) rfl (fun _ _ _ h => h) (Or.inl ⟨by kernel_rfl, fun w9 hw => y_ring rfl rfl⟩) hHeld ?_
  simp only [Act.put, List.setIfInBounds_toArray, List.set_cons_zero, List.set_cons_succ]
  refine takeD (i := 3) (d := some 18) (v := (.slice (some ⟨gr, 0, none⟩) C.length C.length)) rfl (by kernel_rfl) (by kernel_rfl) (by kernel_rfl) rfl (fun _ _ _ h => h) (Or.inl ⟨by kernel_rfl, fun w9 hw => y_load rfl (.inr rfl) rfl (by rw [hw.1.cell]; rfl) rfl⟩) hHeld ?_
  simp only [Act.put, List.setIfInBounds_toArray, List.set_cons_zero, List.set_cons_succ]
  refine takeD (i := 4) (d := some 19) (v := (.pointer (some ⟨g, 0, none⟩))) rfl (by kernel_rfl) (by kernel_rfl) (by kernel_rfl) rfl (fun _ _ _ h => h) (Or.inl ⟨by kernel_rfl, fun w9 hw => y_move rfl rfl⟩) hHeld ?_
  simp only [Act.put, List.setIfInBounds_toArray, List.set_cons_zero, List.set_cons_succ]
  refine takeD (i := 5) (d := some 20) (v := (.int .i64 (i : Int))) rfl (by kernel_rfl) (by kernel_rfl) (by kernel_rfl) rfl (fun _ _ _ h => h) (Or.inl ⟨by kernel_rfl, fun w9 hw => y_move rfl rfl⟩) hHeld ?_
  simp only [Act.put, List.setIfInBounds_toArray, List.set_cons_zero, List.set_cons_succ]
  refine takeD (i := 7) (d := some 22) (v := (.agg x.toArray)) rfl (by kernel_rfl) (by kernel_rfl) (by kernel_rfl) rfl (fun _ _ _ h => h) (Or.inl ⟨by kernel_rfl, fun w9 hw => y_mid rfl rfl (fun j v hv => by rw [hw.2.cell, Nat.zero_add, List.getElem?_toArray]; exact hv) HP.out.2.2.1.1⟩) hHeld ?_
  simp only [Act.put, List.setIfInBounds_toArray, List.set_cons_zero, List.set_cons_succ]
  refine readyD (i := 6) (d := some 21) rfl (by kernel_rfl) rfl (by kernel_rfl) fun K hK => ?_
  refine op_place rfl rfl rfl (place_any HP.out.1 hHeld.1 HF.out.1 HF.out.2.1 HF.out.2.2.1 HF.out.2.2.2) ?_
  rintro e w3 ⟨rfl, n3, hw3⟩
  have m3 : Mod no w2.drew w3 := by rw [hw3]; exact (Mod.refl no _).drewN n3
  refine ⟨_, rfl, hK _ _ ⟨hHeld.1.mod m3 (fun c => c), hHeld.2.mod m3 (fun c => c)⟩ fun hHeld3 => ?_⟩
  have H3 := Lib.hid (And.intro (HD.out.1.mod m3 (fun c => c) (fun c => c)) (HD.out.2.and_then m3))
  clear hK K hw3 m3 hHeld
  have hHeld := hHeld3
  clear hHeld3
  simp only [Act.put, List.setIfInBounds_toArray, List.set_cons_zero, List.set_cons_succ]
  refine takeD (i := 8) (d := some 23) (v := (.pointer (some ⟨gr, p * 33, none⟩))) rfl (by kernel_rfl) (by kernel_rfl) (by kernel_rfl) rfl (fun _ _ _ h => h) (Or.inl ⟨by kernel_rfl, fun w9 hw => y_index rfl rfl rfl HP.out.2.1⟩) hHeld ?_
  simp only [Act.put, List.setIfInBounds_toArray, List.set_cons_zero, List.set_cons_succ]
  refine readyD (i := 9) (d := none) rfl (by kernel_rfl) rfl (by kernel_rfl) fun K hK => ?_
  refine wp_store_mid 89 (.tmp 23) (.tmp 22) rfl gr (p * 33) x.toArray rfl rfl (by rw [ele_size HP.out.2.2.1]; exact H3.out.1.there HP.out.2.1) (ele_info HP.out.2.2.1) (ele_one HP.out.2.2.1) ?_
  simp only [List.toList_toArray]
  have mS : Mod (one gr) w3 (w3.setCells gr (p * 33) x) := mod_setCells (S := one gr) (show one gr gr from rfl) x _ _ (Mod.refl _ _)
  have hk : ¬ one gr w.heap.size := fun c => by have c : w.heap.size = gr := c; omega
  refine hK _ _ ⟨hHeld.1.mod mS hne, hHeld.2.mod mS hk⟩ fun _ => ?_
  have H4 := Lib.hid (And.intro (hHeld.1.mod mS hne) (And.intro (H3.out.1.put HP.out.2.1 HP.out.2.2.1) ((H3.out.2.mono (S' := two g gr) (fun _ _ c => c.elim)).and_then (mS.mono (S' := two g gr) (fun _ _ c => .inr c)))))
  clear hK K hHeld mS hk
  refine wpAnyH_done (by kernel_rfl) ?_ _
  simp only [Act.put, List.toList_toArray]
  clear H3
  generalize w3.setCells gr (p * 33) x = w4 at *
  go_wp2_with fail
  go_ret
  obtain ⟨h1, h2, h3⟩ := H4.out
  obtain ⟨hp, hpl, hx, hh, hc1, hc2, hb, he⟩ := HP.out
  exact ⟨rfl, ⟨C.set p x, f, ⟨by rw [List.length_set, List.length_set]; exact h1, h2, ele_set he hx, hh, by rw [List.length_set]; exact hb⟩, by rw [List.length_set]; exact hc1, by rw [List.length_set]; exact hc2⟩, h3⟩

set_option maxRecDepth 100000 in
set_option maxHeartbeats 4000000 in
theorem push_x {w : World} {g gr0 : Nat} {L : List (List Value)} {x : List Value} (h : GAt w g gr0 L) (hx : Ele x) (hL : L.length ≤ 1048576) :
    Calls Try.prog 73 #[.pointer (some ⟨g, 0, none⟩), .agg x.toArray] w fun e w' => e = .returned (.tuple #[]) ∧ ∃ gr, GAt w' g gr (L ++ [x]) ∧ nextG w gr0 gr ∧ Mod (two g gr0) w w' := by
  have m0 : Mod no w (w.alloc (.cells x.toArray 89)) := (Mod.refl no w).alloc (.cells x.toArray 89)
  have hgl : g < w.heap.size := by obtain ⟨C, f, H, _⟩ := h; exact H.d.lt
  have hgrl : gr0 < w.heap.size := by obtain ⟨C, f, H, _⟩ := h; exact H.r.lt
  have H0 := Lib.hid (And.intro (h.mod m0 (fun c => c) (fun c => c)) (And.intro (Blk.new w 89 x.toArray) m0))
  have HX := Lib.hid (And.intro hx hL)
  have hs0 : (w.alloc (.cells x.toArray 89)).heap.size = w.heap.size + 1 := by simp
  clear h hx hL m0
  go_enter Try.func73, Try.ntmps73
  go_wp2_with fail
  generalize w.alloc (.cells x.toArray 89) = w1 at *
  obtain ⟨C0, f0, HC0, _⟩ := id H0.out.1
  have HD0 := Lib.hid HC0.d
  clear HC0
  refine (there_any HD0.out).mono ?_
  rintro e w' ⟨rfl, rfl⟩
  go_wp2_with fail
  refine (room_any H0.out.1 HX.out.2).mono ?_
  rintro e w2 ⟨rfl, gr, C, f, H, hlt, hc1, hc2, hnx, m2⟩
  have hne := H.ne
  have hne' : gr ≠ g := fun e => hne e.symm
  obtain ⟨p, hp⟩ : ∃ p, p = (f + L.length) % C.length := ⟨_, rfl⟩
  have hpl : p < C.length := by rw [hp]; exact place_lt H.h.from_
  have hfr := H.h.from_
  have hcb := H.b
  have hgrn : w.heap.size ≠ gr := by
    rcases hnx with e | e
    · omega
    · omega
  have HF := Lib.hid (show f ≤ 10000000 ∧ L.length ≤ 10000000 ∧ 0 < C.length ∧ C.length ≤ 10000000 by omega)
  have hw64 : wrap64 ((L.length : Int) + 1) = (L.length : Int) + 1 := IntWalk.wrap64_in _ (by have := HF.out; omega)
  have HP := Lib.hid (And.intro hp (And.intro hpl (And.intro hlt HX.out.1)))
  have m2' : Mod (two g gr0) w w2 := (H0.out.2.2.mono (S' := two g gr0) (fun _ _ c => c.elim)).and_then (m2.mono (S' := two g gr0) (fun _ _ c => .inl c))
  have H2 := Lib.hid (And.intro H (And.intro (H0.out.2.1.mod m2 (fun c => by have c : w.heap.size = g := c; omega)) m2'))
  have hn2 : nextG w gr0 gr := by
    rcases hnx with e | e
    · exact .inl e
    · exact .inr (by omega)
  have HN := Lib.hid (And.intro hn2 (And.intro hc1 (And.intro hc2 hcb)))
  clear m2 m2' hnx hn2 hc1 hc2 hcb hp hpl hlt hfr H
  go_wp2_with fail
  have m2d : Mod (two g gr0) w w2.drew := H2.out.2.2.drew
  have d2d := H2.out.1.mod ((Mod.refl no w2).drew) (fun c => c) (fun c => c)
  have HD := Lib.hid (And.intro d2d m2d)
  refine wp_region_held_drew (S := fun w' => Blk w' g 121 #[.bool true, .slice (some ⟨gr, 0, none⟩) C.length C.length, .int .i64 (f : Int), .int .i64 (L.length : Int)] ∧ Blk w' w.heap.size 89 x.toArray) (by kernel_rfl) ⟨d2d.d, H2.out.2.1.drew⟩ (fun hHeld => ?_)
  clear m2d d2d
  refine takeD (i := 0) (d := some 8) (v := (.pointer (some ⟨g, 0, none⟩))) rfl (by kernel_rfl) (by kernel_rfl) (by kernel_rfl) rfl (fun _ _ _ h => h) (Or.inl ⟨by kernel_rfl, fun w9 hw => y_move rfl rfl⟩) hHeld ?_
  simp only [Act.put, List.setIfInBounds_toArray, List.set_cons_zero, List.set_cons_succ]
  refine takeD (i := 1) (d := some 9) (v := (.pointer (some ⟨g, 0, none⟩))) rfl (by kernel_rfl) (by kernel_rfl) (by kernel_rfl) rfl (fun _ _ _ h => h) (Or.inl ⟨by kernel_rfl, fun w9 hw => y_nil rfl rfl⟩) hHeld ?_
  simp only [Act.put, List.setIfInBounds_toArray, List.set_cons_zero, List.set_cons_succ]
  refine takeD (i := 2) (d := some 10) (v := (.pointer (some ⟨g, 1, none⟩))) rfl (by kernel_rfl) (by kernel_rfl) (by kernel_rfl) rfl (fun _ _ _ h => h) (Or.inl ⟨by kernel_rfl, fun w9 hw => y_ring rfl rfl⟩) hHeld ?_
  simp only [Act.put, List.setIfInBounds_toArray, List.set_cons_zero, List.set_cons_succ]
  refine takeD (i := 3) (d := some 11) (v := (.slice (some ⟨gr, 0, none⟩) C.length C.length)) rfl (by kernel_rfl) (by kernel_rfl) (by kernel_rfl) rfl (fun _ _ _ h => h) (Or.inl ⟨by kernel_rfl, fun w9 hw => y_load rfl (.inr rfl) rfl (by rw [hw.1.cell]; rfl) rfl⟩) hHeld ?_
  simp only [Act.put, List.setIfInBounds_toArray, List.set_cons_zero, List.set_cons_succ]
  refine takeD (i := 4) (d := some 12) (v := (.pointer (some ⟨g, 0, none⟩))) rfl (by kernel_rfl) (by kernel_rfl) (by kernel_rfl) rfl (fun _ _ _ h => h) (Or.inl ⟨by kernel_rfl, fun w9 hw => y_move rfl rfl⟩) hHeld ?_
  simp only [Act.put, List.setIfInBounds_toArray, List.set_cons_zero, List.set_cons_succ]
  refine takeD (i := 5) (d := some 13) (v := (.pointer (some ⟨g, 0, none⟩))) rfl (by kernel_rfl) (by kernel_rfl) (by kernel_rfl) rfl (fun _ _ _ h => h) (Or.inl ⟨by kernel_rfl, fun w9 hw => y_move rfl rfl⟩) hHeld ?_
  simp only [Act.put, List.setIfInBounds_toArray, List.set_cons_zero, List.set_cons_succ]
  refine takeD (i := 6) (d := some 14) (v := (.pointer (some ⟨g, 0, none⟩))) rfl (by kernel_rfl) (by kernel_rfl) (by kernel_rfl) rfl (fun _ _ _ h => h) (Or.inl ⟨by kernel_rfl, fun w9 hw => y_nil rfl rfl⟩) hHeld ?_
  simp only [Act.put, List.setIfInBounds_toArray, List.set_cons_zero, List.set_cons_succ]
  refine takeD (i := 7) (d := some 15) (v := (.pointer (some ⟨g, 3, none⟩))) rfl (by kernel_rfl) (by kernel_rfl) (by kernel_rfl) rfl (fun _ _ _ h => h) (Or.inl ⟨by kernel_rfl, fun w9 hw => y_size rfl rfl⟩) hHeld ?_
  simp only [Act.put, List.setIfInBounds_toArray, List.set_cons_zero, List.set_cons_succ]
  refine takeD (i := 8) (d := some 16) (v := (.int .i64 (L.length : Int))) rfl (by kernel_rfl) (by kernel_rfl) (by kernel_rfl) rfl (fun _ _ _ h => h) (Or.inl ⟨by kernel_rfl, fun w9 hw => y_load rfl (.inl rfl) rfl (by rw [hw.1.cell]; rfl) rfl⟩) hHeld ?_
  simp only [Act.put, List.setIfInBounds_toArray, List.set_cons_zero, List.set_cons_succ]
  refine takeD (i := 10) (d := some 18) (v := (.agg x.toArray)) rfl (by kernel_rfl) (by kernel_rfl) (by kernel_rfl) rfl (fun _ _ _ h => h) (Or.inl ⟨by kernel_rfl, fun w9 hw => y_mid rfl rfl (fun j v hv => by rw [hw.2.cell, Nat.zero_add, List.getElem?_toArray]; exact hv) HP.out.2.2.2.1⟩) hHeld ?_
  simp only [Act.put, List.setIfInBounds_toArray, List.set_cons_zero, List.set_cons_succ]
  refine readyD (i := 9) (d := some 17) rfl (by kernel_rfl) rfl (by kernel_rfl) fun K hK => ?_
  refine op_place rfl rfl rfl (place_any HP.out.1 hHeld.1 HF.out.1 HF.out.2.1 HF.out.2.2.1 HF.out.2.2.2) ?_
  rintro e w3 ⟨rfl, n3, hw3⟩
  have m3 : Mod no w2.drew w3 := by rw [hw3]; exact (Mod.refl no _).drewN n3
  refine ⟨_, rfl, hK _ _ ⟨hHeld.1.mod m3 (fun c => c), hHeld.2.mod m3 (fun c => c)⟩ fun hHeld3 => ?_⟩
  have H3 := Lib.hid (And.intro (HD.out.1.mod m3 (fun c => c) (fun c => c)) (HD.out.2.and_then (m3.mono (S' := two g gr0) (fun _ _ c => c.elim))))
  clear hK K hw3 m3 hHeld
  have hHeld := hHeld3
  clear hHeld3
  simp only [Act.put, List.setIfInBounds_toArray, List.set_cons_zero, List.set_cons_succ]
  refine takeD (i := 11) (d := some 19) (v := (.pointer (some ⟨gr, p * 33, none⟩))) rfl (by kernel_rfl) (by kernel_rfl) (by kernel_rfl) rfl (fun _ _ _ h => h) (Or.inl ⟨by kernel_rfl, fun w9 hw => y_index rfl rfl rfl HP.out.2.1⟩) hHeld ?_
  simp only [Act.put, List.setIfInBounds_toArray, List.set_cons_zero, List.set_cons_succ]
  refine readyD (i := 12) (d := none) rfl (by kernel_rfl) rfl (by kernel_rfl) fun K hK => ?_
  refine wp_store_mid 89 (.tmp 19) (.tmp 18) rfl gr (p * 33) x.toArray rfl rfl (by rw [ele_size HP.out.2.2.2]; exact H3.out.1.there HP.out.2.1) (ele_info HP.out.2.2.2) (ele_one HP.out.2.2.2) ?_
  simp only [List.toList_toArray]
  have mS : Mod (one gr) w3 (w3.setCells gr (p * 33) x) := mod_setCells (S := one gr) (show one gr gr from rfl) x _ _ (Mod.refl _ _)
  have hk : ¬ one gr w.heap.size := fun c => hgrn c
  have mT : Mod (two g gr0) w (w3.setCells gr (p * 33) x) := H3.out.2.trans mS fun b hb c => by
    have c : b = gr := c
    rcases HN.out.1 with e | e
    · exact .inr (by omega)
    · omega
  refine hK _ _ ⟨hHeld.1.mod mS hne, hHeld.2.mod mS hk⟩ fun _ => ?_
  have H4 := Lib.hid (And.intro (hHeld.1.mod mS hne) (And.intro (H3.out.1.put HP.out.2.1 HP.out.2.2.2) mT))
  have hd4 := hHeld.1.mod mS hne
  have e3 := hd4.cell 3
  have g3 := hd4.free 3
  simp at e3
  clear hK K hHeld mS hk hd4 mT
  refine wpAnyH_done (by kernel_rfl) ?_ _
  have hHE := Lib.hid H3.out.1
  simp only [Act.put, List.toList_toArray]
  clear H3
  generalize w3.setCells gr (p * 33) x = w4 at *
  go_wp2_with fail
  go_end0
  obtain ⟨h1, h2, h3⟩ := H4.out
  have hd5 := h1.put 3 (.int .i64 ((L.length : Int) + 1))
  simp at hd5
  have hr5 := h2.far (p := ⟨g, 3, none⟩) hne' (.int .i64 ((L.length : Int) + 1))
  have hh := hHE.out.h.push_top HP.out.2.2.1 x
  rw [← HP.out.1] at hh
  refine ⟨rfl, gr, ⟨C.set p x, f, ⟨?_, hr5, ele_set hHE.out.e HP.out.2.2.2, hh, by rw [List.length_set]; exact hHE.out.b⟩, by rw [List.length_set]; exact HN.out.2.1, by rw [List.length_set]; exact HN.out.2.2.1⟩, HN.out.1, h3.set (p := ⟨g, 3, none⟩) (fun _ => .inl rfl) _⟩
  rw [List.length_set, List.length_append]
  exact hd5

set_option maxRecDepth 100000 in
set_option maxHeartbeats 4000000 in
theorem push_nil {w : World} {x : List Value} :
    Calls Try.prog 73 #[.pointer none, .agg x.toArray] w fun e w' => e = .returned (.tuple #[]) ∧ Mod no w w' := by
  have m0 : Mod no w (w.alloc (.cells x.toArray 89)) := (Mod.refl no w).alloc (.cells x.toArray 89)
  go_enter Try.func73, Try.ntmps73
  go_wp2_with fail
  generalize w.alloc (.cells x.toArray 89) = w1 at *
  refine there_nil.mono ?_
  rintro e w' ⟨rfl, rfl⟩
  go_wp2_with fail
  go_end0
  exact ⟨rfl, m0⟩

end Go.Proofs.Ytknbehjhaaidoaa.DG
