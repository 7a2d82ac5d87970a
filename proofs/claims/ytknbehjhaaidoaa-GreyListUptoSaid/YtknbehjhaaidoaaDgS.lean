/- The row with two ends, of work list's entries: its ring grows (printed by greyroom.py). -/
import Derived.Test.YtknbehjhaaidoaaDgN
namespace Go.Proofs.Ytknbehjhaaidoaa.DG
open Go.RowKit Mem DQ
set_option linter.unusedVariables false
set_option linter.unusedSimpArgs false

section
variable {w : World} {gn p : Nat} {t : TypeId} {C : List (List Value)} {x : List Value}
theorem blk_there (h : Blk w gn t C.flatten.toArray) (hl : ∀ y ∈ C, y.length = 33) (hp : p < C.length) : w.there gn (p * 33) 33 := fun j hj => by
  refine ⟨?_, h.free _⟩
  rw [h.cell, List.getElem?_toArray, List.getElem?_eq_getElem (by rw [flat_len C hl]; omega)]
  rfl
theorem blk_put (h : Blk w gn t C.flatten.toArray) (hl : ∀ y ∈ C, y.length = 33) (hp : p < C.length) (hx : x.length = 33) : Blk (w.setCells gn (p * 33) x) gn t (C.set p x).flatten.toArray := by
  have h1 := blk_sets gn x (p * 33) C.flatten w h (by rw [flat_len C hl, hx]; omega)
  rw [hx] at h1
  rw [flat_set C p x hl hp]
  exact h1
theorem blk_range (h : Blk w gn t C.flatten.toArray) (hl : ∀ y ∈ C, y.length = 33) (hx : C[p]? = some x) : w.rangeAt gn (p * 33) x := fun j v hv => by
  rw [h.cell, List.getElem?_toArray]
  exact flat_get C p x hl hx j v hv
end
theorem DgAt.ele {w : World} {g gr f : Nat} {C L : List (List Value)} (h : DgAt w g gr C f L) : ∀ x ∈ L, Ele x := fun x hx => by
  obtain ⟨i, hi⟩ := List.getElem?_of_mem hx
  exact h.e x (List.mem_of_getElem? (h.h.at_ i x hi))
theorem grown_ele {L : List (List Value)} (h : ∀ x ∈ L, Ele x) (k n : Nat) : ∀ y ∈ grown L k n zl, Ele y := fun y hy => by
  unfold grown at hy
  rcases List.mem_append.1 hy with h' | h'
  · exact h y (List.mem_of_mem_take h')
  · rw [List.eq_of_mem_replicate h']; exact zl_ele
theorem made_n (n : Nat) : madeCells (Value.agg zl.toArray).cells (n * 33) = ((List.replicate n zl).flatten).toArray := by
  have hl : ∀ y ∈ List.replicate n zl, y.length = 33 := fun y hy => by rw [List.eq_of_mem_replicate hy]; exact zl_ele.1
  have hz : (Value.agg zl.toArray).cells = zl.toArray := by kernel_rfl
  rw [hz]
  apply Array.ext
  · rw [size_madeCells, List.size_toArray, flat_len _ hl, List.length_replicate]
  · intro i h1 h2
    rw [size_madeCells] at h1
    have hk : i % 33 < zl.length := by rw [zl_ele.1]; omega
    have hg := flat_get (List.replicate n zl) (i / 33) zl hl (by rw [List.getElem?_replicate, if_pos (by omega)]) (i % 33) _ (List.getElem?_eq_getElem hk)
    rw [show i / 33 * 33 + i % 33 = i by omega] at hg
    have h3 := (List.getElem?_eq_some_iff.1 hg).2
    rw [show (List.replicate n zl).flatten.toArray[i] = zl[i % 33] from by simpa using h3]
    have hs : zl.toArray.size = 33 := rfl
    simp only [madeCells, Array.getElem_map, Array.getElem_range, hs]
    rw [getElem!_pos zl.toArray (i % 33) (by rw [hs]; omega), List.getElem_toArray]

/-- A row of entries, its bounds, and where the ring lies behind a step: where it lay, or in new memory. -/
def GAt (w : World) (g gr : Nat) (L : List (List Value)) : Prop := ∃ C f, DgAt w g gr C f L ∧ C.length ≤ 2097160 ∧ 8 ≤ C.length
def nextG (w : World) (gr gr' : Nat) : Prop := gr' = gr ∨ w.heap.size ≤ gr'
theorem nextG.refl (w : World) (gr : Nat) : nextG w gr gr := .inl rfl
theorem nextG.trans {w w1 : World} {a b c : Nat} (h : nextG w a b) (h' : nextG w1 b c) (hs : w.heap.size ≤ w1.heap.size) : nextG w a c := by
  rcases h' with rfl | h'
  · exact h
  · exact .inr (by omega)
theorem GAt.mod {S : Nat → Prop} {w w' : World} {g gr : Nat} {L : List (List Value)} (h : GAt w g gr L) (hm : Mod S w w') (h1 : ¬ S g) (h2 : ¬ S gr) : GAt w' g gr L := by
  obtain ⟨C, f, H, h3⟩ := h
  exact ⟨C, f, H.mod hm h1 h2, h3⟩

def RoomI (w : World) (gn : Nat) (L : List (List Value)) (n : Nat) (i0 i : Value) (wr : World) : Prop :=
  ∃ k : Nat, k ≤ L.length ∧ i = .int .i64 (k : Int) ∧ Blk wr gn 89 (grown L k n zl).flatten.toArray ∧ Mod (one gn) w wr

set_option maxRecDepth 100000 in
set_option maxHeartbeats 4000000 in
theorem room_any {w : World} {g gr : Nat} {L : List (List Value)} (h : GAt w g gr L) (hL : L.length ≤ 1048576) :
    Calls Try.prog 99 #[.pointer (some ⟨g, 0, none⟩)] w fun e w' => e = .returned (.tuple #[]) ∧ ∃ gr' C' f', DgAt w' g gr' C' f' L ∧ L.length < C'.length ∧ C'.length ≤ 2097160 ∧ 8 ≤ C'.length ∧ nextG w gr gr' ∧ Mod (one g) w w' := by
  obtain ⟨C, f, H, hc1, hc2⟩ := h
  by_cases hlt : L.length < C.length
  · refine (room_has H hlt).mono ?_
    rintro e w' ⟨rfl, n, rfl⟩
    have m1 := (Mod.refl no w).drewN n
    exact ⟨rfl, gr, C, f, H.mod m1 (fun c => c) (fun c => c), hlt, hc1, hc2, .inl rfl, m1.mono (fun _ _ c => c.elim)⟩
  · have hne := H.ne
    have c1 := H.d.cell 1
    have c3 := H.d.cell 3
    simp at c1 c3
    have hsz := H.h.size
    have hCL : C.length = L.length := by omega
    have hw2 : wrap64 (2 * (C.length : Int)) = 2 * (C.length : Int) := IntWalk.wrap64_in _ (by omega)
    have HW := Lib.hid (show wrap64 (2 * (C.length : Int)) = ((2 * C.length : Nat) : Int) by rw [hw2]; push_cast; rfl)
    have HH := Lib.hid H
    have HX := Lib.hid (And.intro hc1 (And.intro hc2 (And.intro hL hCL)))
    obtain ⟨i0, hi, hz0, hz1, hz2⟩ := info_parts grey_zero
    have HI0 := Lib.hid (And.intro hi (And.intro hz0 (And.intro hz1 hz2)))
    clear H hc1 hc2 hL hsz hCL hi hz0 hz1 hz2
    go_enter Try.func99, Try.ntmps99
    go_wp2_with fail
    go_quiet (fail)
    go_wp2_with (first
      | (at_make
         refine wpList_make_full _ rfl (.tmp 19) (.tmp 19) 35 rfl 0 89 i0 (.agg zl.toArray) 33 Try.underlying35 HI0.out.1 HI0.out.2.1 HI0.out.2.2.1 .i64 .i64 (wrap64 (2 * (C.length : Int))) (wrap64 (2 * (C.length : Int))) (2 * C.length) rfl rfl HW.out HW.out ?_ ?_ (Nat.zero_le _) ?_
         · rw [HI0.out.2.2.2]; have := HX.out; omega
         · have := HX.out; simp only [maxLen]; omega
         intro w1 hown hg1
         have hb1 := own_blk33 hown
         rw [made_n] at hb1
         have hm1 : Mod no w w1 := ((Mod.refl no w).drewN nq).and_then (Mod.of_grown hg1 (fun _ _ e => by cases e))
         have hc3 := (HH.out.d.mod hm1 (fun c => c)).cell 3
         simp at hc3
         have H1 := Lib.hid (And.intro hb1 hm1)
         clear hown hg1 hb1 hm1))
    have hgl := HH.out.d.lt
    have hgrl := HH.out.r.lt
    have hn1 : w.heap.size ≠ g := by omega
    have hn2 : w.heap.size ≠ gr := by omega
    have hne' : gr ≠ g := fun e => hne e.symm
    go_loopw [3, 25] (RoomI w1 w.heap.size L (2 * C.length)) (fun _ i _ => L.length - (intOf i).toNat)
    case atStart => exact ⟨0, Nat.zero_le _, rfl, by rw [grown_0]; exact H1.out.1, Mod.refl _ _⟩
    case round =>
      obtain ⟨k, hk, rfl, hbk, M⟩ := hrel
      have HR := Lib.hid ((HH.out.mod H1.out.2 (fun c => c) (fun c => c)).mod M (fun c => hn1 c.symm) (fun c => hn2 c.symm))
      by_cases hkl : k < L.length
      · obtain ⟨x, hx⟩ : ∃ x, L[k]? = some x := ⟨_, List.getElem?_eq_getElem hkl⟩
        obtain ⟨p, hp⟩ : ∃ p, p = (f + k) % C.length := ⟨_, rfl⟩
        have hcx : C[p]? = some x := by rw [hp]; exact HH.out.h.at_ k x hx
        have hpl := (List.getElem?_eq_some_iff.1 hcx).1
        have hel := HH.out.e x (List.mem_of_getElem? hcx)
        have hgel := grown_ele HH.out.ele k (2 * C.length)
        have hgl3 : (grown L k (2 * C.length) zl).length = 2 * C.length := grown_length _ _ _ _ hk (by have := HX.out; omega)
        have hkL : (k : Int) < (L.length : Int) := by omega
        have HP := Lib.hid (And.intro hp (And.intro hpl (And.intro hcx hel)))
        have HB := Lib.hid (And.intro hbk (And.intro M (And.intro hx (And.intro hkl (And.intro hgel hgl3)))))
        have hfr := HH.out.h.from_
        have HF := Lib.hid (show f ≤ 10000000 ∧ k ≤ 10000000 ∧ 0 < C.length ∧ C.length ≤ 10000000 by have := HX.out; omega)
        have HK2 := Lib.hid (show k < 2 * C.length by have := HX.out; omega)
        have hw64 : wrap64 ((k : Int) + 1) = (k : Int) + 1 := IntWalk.wrap64_in _ (by have := HF.out; omega)
        clear hp hbk M hx hcx hpl hel hgel hgl3 hk hfr hkl
        go_wp2_with fail
        have HD := Lib.hid (HR.out.mod ((Mod.refl no wr).drew) (fun c => c) (fun c => c))
        refine wp_region_held_drew (S := fun w' => w'.cell? ⟨g, 1, none⟩ = some (.slice (some ⟨gr, 0, none⟩) C.length C.length) ∧ w'.rangeAt gr (p * 33) x) (by kernel_rfl) ⟨by rw [HD.out.d.cell]; rfl, HD.out.range HP.out.2.2.1⟩ (fun hHeld => ?_)
        refine takeD (i := 0) (d := some 28) (v := (.slice (some ⟨w.heap.size, 0, none⟩) (2 * C.length) (2 * C.length))) rfl (by kernel_rfl) (by kernel_rfl) (by kernel_rfl) rfl (fun _ _ _ h => h) (Or.inl ⟨by kernel_rfl, fun w9 hw => y_move rfl rfl⟩) hHeld ?_
        simp only [Act.put, List.setIfInBounds_toArray, List.set_cons_zero, List.set_cons_succ]
        refine takeD (i := 1) (d := some 29) (v := (.int .i64 (k : Int))) rfl (by kernel_rfl) (by kernel_rfl) (by kernel_rfl) rfl (fun _ _ _ h => h) (Or.inl ⟨by kernel_rfl, fun w9 hw => y_move rfl rfl⟩) hHeld ?_
        simp only [Act.put, List.setIfInBounds_toArray, List.set_cons_zero, List.set_cons_succ]
        refine takeD (i := 2) (d := some 30) (v := (.pointer (some ⟨g, 0, none⟩))) rfl (by kernel_rfl) (by kernel_rfl) (by kernel_rfl) rfl (fun _ _ _ h => h) (Or.inl ⟨by kernel_rfl, fun w9 hw => y_move rfl rfl⟩) hHeld ?_
        simp only [Act.put, List.setIfInBounds_toArray, List.set_cons_zero, List.set_cons_succ]
        refine takeD (i := 3) (d := some 31) (v := (.pointer (some ⟨g, 0, none⟩))) rfl (by kernel_rfl) (by kernel_rfl) (by kernel_rfl) rfl (fun _ _ _ h => h) (Or.inl ⟨by kernel_rfl, fun w9 hw => y_nil rfl rfl⟩) hHeld ?_
        simp only [Act.put, List.setIfInBounds_toArray, List.set_cons_zero, List.set_cons_succ]
        refine takeD (i := 4) (d := some 32) (v := (.pointer (some ⟨g, 1, none⟩))) rfl (by kernel_rfl) (by kernel_rfl) (by kernel_rfl) rfl (fun _ _ _ h => h) (Or.inl ⟨by kernel_rfl, fun w9 hw => y_ring rfl rfl⟩) hHeld ?_
        simp only [Act.put, List.setIfInBounds_toArray, List.set_cons_zero, List.set_cons_succ]
        refine takeD (i := 5) (d := some 33) (v := (.slice (some ⟨gr, 0, none⟩) C.length C.length)) rfl (by kernel_rfl) (by kernel_rfl) (by kernel_rfl) rfl (fun _ _ _ h => h) (Or.inl ⟨by kernel_rfl, fun w9 hw => y_load rfl (.inr rfl) rfl hw.1 rfl⟩) hHeld ?_
        simp only [Act.put, List.setIfInBounds_toArray, List.set_cons_zero, List.set_cons_succ]
        refine takeD (i := 6) (d := some 34) (v := (.pointer (some ⟨g, 0, none⟩))) rfl (by kernel_rfl) (by kernel_rfl) (by kernel_rfl) rfl (fun _ _ _ h => h) (Or.inl ⟨by kernel_rfl, fun w9 hw => y_move rfl rfl⟩) hHeld ?_
        simp only [Act.put, List.setIfInBounds_toArray, List.set_cons_zero, List.set_cons_succ]
        refine takeD (i := 7) (d := some 35) (v := (.int .i64 (k : Int))) rfl (by kernel_rfl) (by kernel_rfl) (by kernel_rfl) rfl (fun _ _ _ h => h) (Or.inl ⟨by kernel_rfl, fun w9 hw => y_move rfl rfl⟩) hHeld ?_
        simp only [Act.put, List.setIfInBounds_toArray, List.set_cons_zero, List.set_cons_succ]
        refine readyD (i := 8) (d := some 36) rfl (by kernel_rfl) rfl (by kernel_rfl) fun K hK => ?_
        refine op_place rfl rfl rfl (place_any HP.out.1 HD.out.d HF.out.1 HF.out.2.1 HF.out.2.2.1 HF.out.2.2.2) ?_
        rintro e w3 ⟨rfl, n3, hw3⟩
        have m3 : Mod no wr w3 := by rw [hw3]; exact ((Mod.refl no wr).drew).drewN n3
        have H3 := Lib.hid (And.intro (HR.out.mod m3 (fun c => c) (fun c => c)) (And.intro (HB.out.1.mod m3 (fun c => c)) m3))
        refine ⟨_, rfl, hK _ _ ⟨by rw [H3.out.1.d.cell]; rfl, H3.out.1.range HP.out.2.2.1⟩ fun hHeld3 => ?_⟩
        clear hK K hw3 m3 hHeld
        have hHeld := hHeld3
        clear hHeld3
        simp only [Act.put, List.setIfInBounds_toArray, List.set_cons_zero, List.set_cons_succ]
        refine takeD (i := 9) (d := some 37) (v := (.pointer (some ⟨gr, p * 33, none⟩))) rfl (by kernel_rfl) (by kernel_rfl) (by kernel_rfl) rfl (fun _ _ _ h => h) (Or.inl ⟨by kernel_rfl, fun w9 hw => y_index rfl rfl rfl HP.out.2.1⟩) hHeld ?_
        simp only [Act.put, List.setIfInBounds_toArray, List.set_cons_zero, List.set_cons_succ]
        refine takeD (i := 10) (d := some 38) (v := (.agg x.toArray)) rfl (by kernel_rfl) (by kernel_rfl) (by kernel_rfl) rfl (fun _ _ _ h => h) (Or.inl ⟨by kernel_rfl, fun w9 hw => y_mid rfl rfl hw.2 HP.out.2.2.2.1⟩) hHeld ?_
        simp only [Act.put, List.setIfInBounds_toArray, List.set_cons_zero, List.set_cons_succ]
        refine takeD (i := 11) (d := some 39) (v := (.pointer (some ⟨w.heap.size, k * 33, none⟩))) rfl (by kernel_rfl) (by kernel_rfl) (by kernel_rfl) rfl (fun _ _ _ h => h) (Or.inl ⟨by kernel_rfl, fun w9 hw => y_index rfl rfl rfl HK2.out⟩) hHeld ?_
        simp only [Act.put, List.setIfInBounds_toArray, List.set_cons_zero, List.set_cons_succ]
        refine readyD (i := 12) (d := none) rfl (by kernel_rfl) rfl (by kernel_rfl) fun K hK => ?_
        have hth := blk_there (p := k) H3.out.2.1 (fun y hy => (HB.out.2.2.2.2.1 y hy).1) (by rw [HB.out.2.2.2.2.2]; exact HK2.out)
        have hs9 : x.toArray.size = 33 := by rw [List.size_toArray]; exact HP.out.2.2.2.1
        refine wp_store_mid 89 (.tmp 39) (.tmp 38) rfl w.heap.size (k * 33) x.toArray rfl rfl (by rw [hs9]; exact hth) (by rw [List.size_toArray]; exact grey_info HP.out.2.2.2.1) (all_oneCell_toArray HP.out.2.2.2.2) ?_
        simp only [List.toList_toArray]
        have mS : Mod (one w.heap.size) w3 (w3.setCells w.heap.size (k * 33) x) := mod_setCells (S := one w.heap.size) (show one w.heap.size w.heap.size from rfl) x _ _ (Mod.refl _ _)
        have hd4 := H3.out.1.mod mS (fun c => hn1 c.symm) (fun c => hn2 c.symm)
        have hb4 := blk_put (p := k) H3.out.2.1 (fun y hy => (HB.out.2.2.2.2.1 y hy).1) (by rw [HB.out.2.2.2.2.2]; exact HK2.out) HP.out.2.2.2.1
        rw [grown_set HB.out.2.2.1 HK2.out] at hb4
        have H4 := Lib.hid (And.intro hb4 ((HB.out.2.1.and_then (H3.out.2.2.mono (S' := one w.heap.size) (fun _ _ c => c.elim))).and_then mS))
        refine hK _ _ ⟨by rw [hd4.d.cell]; rfl, hd4.range HP.out.2.2.1⟩ fun _ => ?_
        clear hK K hHeld mS hd4 hb4 hth
        refine wpAnyH_done (by kernel_rfl) ?_ _
        simp only [Act.put]
        clear H3 HD
        generalize w3.setCells w.heap.size (k * 33) x = w4 at *
        go_wp2_with fail
        go_roundw
        case rel => exact ⟨k + 1, HB.out.2.2.2.1, by go_num, H4.out.1, H4.out.2⟩
        case measure =>
          try rw [hw64]
          clear hw64
          have := HB.out.2.2.2.1
          show L.length - ((k : Int) + 1).toNat < L.length - ((k : Int)).toNat
          omega
      · obtain rfl : k = L.length := by omega
        have hkL : ¬ (L.length : Int) < (L.length : Int) := by omega
        have d1 := HR.out.d.cell 1
        have d2 := HR.out.d.cell 2
        have df1 := HR.out.d.free 1
        have df2 := HR.out.d.free 2
        simp at d1 d2
        have HD := Lib.hid (And.intro hbk M)
        clear hbk M hk hkl
        go_wp2_with fail
        go_end0
        obtain ⟨hc1, hc2, hL, hCL⟩ := HX.out
        obtain ⟨hbk, M⟩ := HD.out
        have hd4 := (HR.out.d.put 1 (.slice (some ⟨w.heap.size, 0, none⟩) (2 * C.length) (2 * C.length))).put 2 (.int .i64 0)
        simp at hd4
        have hr4 := (hbk.far (p := ⟨g, 1, none⟩) hn1 (.slice (some ⟨w.heap.size, 0, none⟩) (2 * C.length) (2 * C.length))).far (p := ⟨g, 2, none⟩) hn1 (.int .i64 0)
        have hgl2 := grown_length L L.length (2 * C.length) zl (Nat.le_refl _) (by omega)
        have m2 : Mod (one g) w wr := (H1.out.2.mono (S' := one g) (fun _ _ c => c.elim)).trans M fun b hb c => by
          have c : b = w.heap.size := c
          omega
        exact ⟨rfl, w.heap.size, grown L L.length (2 * C.length) zl, ⟨0, by rw [hgl2]; exact hd4, hr4, grown_ele HH.out.ele _ _, HH.out.h.grown _ (by omega) zl, by rw [hgl2]; omega⟩, by rw [hgl2]; omega, by rw [hgl2]; omega, by rw [hgl2]; omega, .inr (Nat.le_refl _), (m2.set (p := ⟨g, 1, none⟩) (fun _ => rfl) _).set (p := ⟨g, 2, none⟩) (fun _ => rfl) _⟩

end Go.Proofs.Ytknbehjhaaidoaa.DG
