/- The row with two ends, of work list's entries: what takes an entry off, puts one on, puts another one (printed by greytake.py). -/
import Derived.Test.YtknbehjhaaidoaaDgU
namespace Go.Proofs.Ytknbehjhaaidoaa.DG
open Go.RowKit Mem DQ
set_option linter.unusedVariables false
set_option linter.unusedSimpArgs false

set_option maxRecDepth 100000 in
theorem len_raw {w : World} {g : Nat} {v1 v2 : Value} {n : Int} (h : Blk w g 121 #[.bool true, v1, v2, .int .i64 n]) :
    Calls Try.prog 49 #[.pointer (some ⟨g, 0, none⟩)] w fun e w' => e = .returned (.int .i64 n) ∧ w = w' := by
  have c3 := h.cell 3
  simp at c3
  have HD := Lib.hid h
  clear h
  go_enter Try.func49, Try.ntmps49
  go_wp2_with (go_at_call 82; refine (there_any HD.out).mono ?_; rintro e w' ⟨rfl, rfl⟩)
  go_ret
  exact ⟨rfl, rfl⟩

set_option maxRecDepth 100000 in
set_option maxHeartbeats 4000000 in
theorem pop_top {w : World} {g gr : Nat} {L : List (List Value)} {x : List Value} (h : GAt w g gr (L ++ [x])) :
    Calls Try.prog 80 #[.pointer (some ⟨g, 0, none⟩)] w fun e w' => e = .returned (.tuple #[.agg x.toArray, .bool true]) ∧ GAt w' g gr L ∧ Mod (two g gr) w w' := by
  obtain ⟨C, f, H, hc1, hc2⟩ := h
  obtain ⟨hcx, hh⟩ := H.h.pop_top zl
  obtain ⟨p, hp⟩ : ∃ p, p = (f + L.length) % C.length := ⟨_, rfl⟩
  rw [← hp] at hcx hh
  have hel := H.e x (List.mem_of_getElem? hcx)
  have hsz := H.h.size
  have hfr := H.h.from_
  have hb := H.b
  have hne := H.ne
  have hne' : gr ≠ g := fun e => hne e.symm
  have hgl := H.d.lt
  have hgrl := H.r.lt
  have hd0 : Blk w g 121 #[.bool true, .slice (some ⟨gr, 0, none⟩) C.length C.length, .int .i64 (f : Int), .int .i64 ((L.length : Int) + 1)] := by
    have h := H.d
    rw [show (((L ++ [x]).length : Nat) : Int) = (L.length : Int) + 1 by simp] at h
    exact h
  rw [List.length_append, List.length_singleton] at hsz
  have hw64 : wrap64 (L.length : Int) = (L.length : Int) := IntWalk.wrap64_in _ (by omega)
  have hw64' : wrap64 ((L.length : Int) + 1 - 1) = (L.length : Int) := by rw [show (L.length : Int) + 1 - 1 = (L.length : Int) by omega]; exact hw64
  have hq : ¬ (L.length : Int) + 1 = 0 := by omega
  have HP := Lib.hid (And.intro hp (And.intro hcx (And.intro hel (And.intro hh (And.intro hc1 (And.intro hc2 (And.intro hb H.e)))))))
  have HF := Lib.hid (show f ≤ 10000000 ∧ L.length ≤ 10000000 by omega)
  have HH := Lib.hid (And.intro hd0 H.r)
  clear hcx hh hp hel hsz hfr hb hc1 hc2 H hd0
  go_enter Try.func80, Try.ntmps80
  go_wp2_with fail
  have m0 : Mod no w ((w.alloc (.cells #[.int .u8 0, .int .u8 0, .int .u8 0, .int .u8 0, .int .u8 0, .int .u8 0, .int .u8 0, .int .u8 0, .int .u8 0, .int .u8 0, .int .u8 0, .int .u8 0, .int .u8 0, .int .u8 0, .int .u8 0, .int .u8 0, .int .u8 0, .int .u8 0, .int .u8 0, .int .u8 0, .int .u8 0, .int .u8 0, .int .u8 0, .int .u8 0, .int .u8 0, .int .u8 0, .int .u8 0, .int .u8 0, .int .u8 0, .int .u8 0, .int .u8 0, .int .u8 0, .int .i64 0] 89)).alloc (.cells #[.int .u8 0, .int .u8 0, .int .u8 0, .int .u8 0, .int .u8 0, .int .u8 0, .int .u8 0, .int .u8 0, .int .u8 0, .int .u8 0, .int .u8 0, .int .u8 0, .int .u8 0, .int .u8 0, .int .u8 0, .int .u8 0, .int .u8 0, .int .u8 0, .int .u8 0, .int .u8 0, .int .u8 0, .int .u8 0, .int .u8 0, .int .u8 0, .int .u8 0, .int .u8 0, .int .u8 0, .int .u8 0, .int .u8 0, .int .u8 0, .int .u8 0, .int .u8 0, .int .i64 0] 89)) := ((Mod.refl no w).alloc _).alloc _
  have b2 : Blk ((w.alloc (.cells #[.int .u8 0, .int .u8 0, .int .u8 0, .int .u8 0, .int .u8 0, .int .u8 0, .int .u8 0, .int .u8 0, .int .u8 0, .int .u8 0, .int .u8 0, .int .u8 0, .int .u8 0, .int .u8 0, .int .u8 0, .int .u8 0, .int .u8 0, .int .u8 0, .int .u8 0, .int .u8 0, .int .u8 0, .int .u8 0, .int .u8 0, .int .u8 0, .int .u8 0, .int .u8 0, .int .u8 0, .int .u8 0, .int .u8 0, .int .u8 0, .int .u8 0, .int .u8 0, .int .i64 0] 89)).alloc (.cells #[.int .u8 0, .int .u8 0, .int .u8 0, .int .u8 0, .int .u8 0, .int .u8 0, .int .u8 0, .int .u8 0, .int .u8 0, .int .u8 0, .int .u8 0, .int .u8 0, .int .u8 0, .int .u8 0, .int .u8 0, .int .u8 0, .int .u8 0, .int .u8 0, .int .u8 0, .int .u8 0, .int .u8 0, .int .u8 0, .int .u8 0, .int .u8 0, .int .u8 0, .int .u8 0, .int .u8 0, .int .u8 0, .int .u8 0, .int .u8 0, .int .u8 0, .int .u8 0, .int .i64 0] 89)) w.heap.size 89 zl.toArray := (Blk.new w _ _).alloc _
  have b4 : Blk ((w.alloc (.cells #[.int .u8 0, .int .u8 0, .int .u8 0, .int .u8 0, .int .u8 0, .int .u8 0, .int .u8 0, .int .u8 0, .int .u8 0, .int .u8 0, .int .u8 0, .int .u8 0, .int .u8 0, .int .u8 0, .int .u8 0, .int .u8 0, .int .u8 0, .int .u8 0, .int .u8 0, .int .u8 0, .int .u8 0, .int .u8 0, .int .u8 0, .int .u8 0, .int .u8 0, .int .u8 0, .int .u8 0, .int .u8 0, .int .u8 0, .int .u8 0, .int .u8 0, .int .u8 0, .int .i64 0] 89)).alloc (.cells #[.int .u8 0, .int .u8 0, .int .u8 0, .int .u8 0, .int .u8 0, .int .u8 0, .int .u8 0, .int .u8 0, .int .u8 0, .int .u8 0, .int .u8 0, .int .u8 0, .int .u8 0, .int .u8 0, .int .u8 0, .int .u8 0, .int .u8 0, .int .u8 0, .int .u8 0, .int .u8 0, .int .u8 0, .int .u8 0, .int .u8 0, .int .u8 0, .int .u8 0, .int .u8 0, .int .u8 0, .int .u8 0, .int .u8 0, .int .u8 0, .int .u8 0, .int .u8 0, .int .i64 0] 89)) (w.heap.size + 1) 89 zl.toArray := by
    have h := Blk.new (w.alloc (.cells #[.int .u8 0, .int .u8 0, .int .u8 0, .int .u8 0, .int .u8 0, .int .u8 0, .int .u8 0, .int .u8 0, .int .u8 0, .int .u8 0, .int .u8 0, .int .u8 0, .int .u8 0, .int .u8 0, .int .u8 0, .int .u8 0, .int .u8 0, .int .u8 0, .int .u8 0, .int .u8 0, .int .u8 0, .int .u8 0, .int .u8 0, .int .u8 0, .int .u8 0, .int .u8 0, .int .u8 0, .int .u8 0, .int .u8 0, .int .u8 0, .int .u8 0, .int .u8 0, .int .i64 0] 89)) 89 zl.toArray
    rw [show ((w.alloc (.cells #[.int .u8 0, .int .u8 0, .int .u8 0, .int .u8 0, .int .u8 0, .int .u8 0, .int .u8 0, .int .u8 0, .int .u8 0, .int .u8 0, .int .u8 0, .int .u8 0, .int .u8 0, .int .u8 0, .int .u8 0, .int .u8 0, .int .u8 0, .int .u8 0, .int .u8 0, .int .u8 0, .int .u8 0, .int .u8 0, .int .u8 0, .int .u8 0, .int .u8 0, .int .u8 0, .int .u8 0, .int .u8 0, .int .u8 0, .int .u8 0, .int .u8 0, .int .u8 0, .int .i64 0] 89))).heap.size = w.heap.size + 1 from by simp] at h
    exact h
  have H1 := Lib.hid (And.intro (And.intro (HH.out.1.mod m0 (fun c => c)) (HH.out.2.mod m0 (fun c => c))) (And.intro b2 (And.intro b4 m0)))
  clear m0 b2 b4
  generalize ((w.alloc (.cells #[.int .u8 0, .int .u8 0, .int .u8 0, .int .u8 0, .int .u8 0, .int .u8 0, .int .u8 0, .int .u8 0, .int .u8 0, .int .u8 0, .int .u8 0, .int .u8 0, .int .u8 0, .int .u8 0, .int .u8 0, .int .u8 0, .int .u8 0, .int .u8 0, .int .u8 0, .int .u8 0, .int .u8 0, .int .u8 0, .int .u8 0, .int .u8 0, .int .u8 0, .int .u8 0, .int .u8 0, .int .u8 0, .int .u8 0, .int .u8 0, .int .u8 0, .int .u8 0, .int .i64 0] 89)).alloc (.cells #[.int .u8 0, .int .u8 0, .int .u8 0, .int .u8 0, .int .u8 0, .int .u8 0, .int .u8 0, .int .u8 0, .int .u8 0, .int .u8 0, .int .u8 0, .int .u8 0, .int .u8 0, .int .u8 0, .int .u8 0, .int .u8 0, .int .u8 0, .int .u8 0, .int .u8 0, .int .u8 0, .int .u8 0, .int .u8 0, .int .u8 0, .int .u8 0, .int .u8 0, .int .u8 0, .int .u8 0, .int .u8 0, .int .u8 0, .int .u8 0, .int .u8 0, .int .u8 0, .int .i64 0] 89)) = w1 at *
  refine (len_raw H1.out.1.1).mono ?_
  rintro e w2 ⟨rfl, rfl⟩
  have e3 := H1.out.1.1.cell 3
  have g3 := H1.out.1.1.free 3
  simp at e3
  have hs1 := H1.out.2.2.2.size
  go_wp2_with fail
  have hd2 := H1.out.1.1.put 3 (.int .i64 (L.length : Int))
  simp at hd2
  have hr2 := H1.out.1.2.far (p := ⟨g, 3, none⟩) hne' (.int .i64 (L.length : Int))
  have hv2 := H1.out.2.1.far (p := ⟨g, 3, none⟩) (show w.heap.size ≠ g by omega) (.int .i64 (L.length : Int))
  have m2 := (H1.out.2.2.2.mono (S' := two g gr) (fun _ _ c => c.elim)).set (p := ⟨g, 3, none⟩) (fun _ => .inl rfl) (.int .i64 (L.length : Int))
  have H2 := Lib.hid (And.intro hd2 (And.intro hr2 (And.intro hv2 m2)))
  clear hd2 hr2 hv2 m2 e3 g3
  generalize w1.setCell ⟨g, 3, none⟩ (.int .i64 (L.length : Int)) = w2 at *
  refine (take_any H2.out.1 H2.out.2.1 HP.out.2.2.2.2.2.2.2 HP.out.2.2.2.2.2.2.1 HP.out.1 HF.out.1 HF.out.2 HP.out.2.1 hne).mono ?_
  rintro e w3 ⟨rfl, hr3, m3⟩
  have H3 := Lib.hid (And.intro (H2.out.1.mod m3 hne) (And.intro hr3 (And.intro (H2.out.2.2.1.mod m3 (fun c => by have c : w.heap.size = gr := c; omega)) (H2.out.2.2.2.and_then (m3.mono (S' := two g gr) (fun _ _ c => .inr c))))))
  clear hr3 m3
  go_wp2_with (first
    | (refine wpList_store_mid rfl 89 (.tmp 2) (.tmp 21) rfl w.heap.size 0 x.toArray rfl rfl (by rw [ele_size HP.out.2.2.1]; exact var_there H3.out.2.2.1 rfl) (ele_info HP.out.2.2.1) (ele_one HP.out.2.2.1) ?_
       simp only [List.toList_toArray]
       obtain ⟨b4, m4⟩ := var_set H3.out.2.2.1 rfl HP.out.2.2.1
       have H5 := Lib.hid (And.intro (H3.out.1.mod m4 (fun c => by have c : g = w.heap.size := c; omega)) (And.intro (H3.out.2.1.mod m4 (fun c => by have c : gr = w.heap.size := c; omega)) (And.intro b4 (mod_new H3.out.2.2.2 m4 (Nat.le_refl _)))))
       clear b4 m4
       generalize w3.setCells w.heap.size 0 x = w5 at *))
  refine grey_done HP.out.2.2.1.1 (var_range H5.out.2.2.1) _ rfl rfl rfl _ Try.results80 _ ⟨rfl, ?_, H5.out.2.2.2⟩
  obtain ⟨hp, hcx, hel, hh, hc1, hc2, hb, he⟩ := HP.out
  exact ⟨C.set p zl, f, ⟨by rw [List.length_set]; exact H5.out.1, H5.out.2.1, ele_set he zl_ele, hh, by rw [List.length_set]; exact hb⟩, by rw [List.length_set]; exact hc1, by rw [List.length_set]; exact hc2⟩

set_option maxRecDepth 100000 in
set_option maxHeartbeats 4000000 in
theorem pop_bottom {w : World} {g gr : Nat} {L : List (List Value)} {x : List Value} (h : GAt w g gr (x :: L)) :
    Calls Try.prog 79 #[.pointer (some ⟨g, 0, none⟩)] w fun e w' => e = .returned (.tuple #[.agg x.toArray, .bool true]) ∧ GAt w' g gr L ∧ Mod (two g gr) w w' := by
  obtain ⟨C, f, H, hc1, hc2⟩ := h
  obtain ⟨hcx, hh⟩ := H.h.pop_bottom zl
  have hfr := H.h.from_
  have hp : f = (f + 0) % C.length := by rw [Nat.add_zero, Nat.mod_eq_of_lt hfr]
  have hel := H.e x (List.mem_of_getElem? hcx)
  have hsz := H.h.size
  have hb := H.b
  have hne := H.ne
  have hne' : gr ≠ g := fun e => hne e.symm
  have hgl := H.d.lt
  have hgrl := H.r.lt
  have hd0 : Blk w g 121 #[.bool true, .slice (some ⟨gr, 0, none⟩) C.length C.length, .int .i64 (f : Int), .int .i64 ((L.length : Int) + 1)] := by
    have h := H.d
    rw [show (((x :: L).length : Nat) : Int) = (L.length : Int) + 1 by simp] at h
    exact h
  rw [List.length_cons] at hsz
  have hw64 : wrap64 (L.length : Int) = (L.length : Int) := IntWalk.wrap64_in _ (by omega)
  have hw64' : wrap64 ((L.length : Int) + 1 - 1) = (L.length : Int) := by rw [show (L.length : Int) + 1 - 1 = (L.length : Int) by omega]; exact hw64
  have hq : ¬ (L.length : Int) + 1 = 0 := by omega
  have HP := Lib.hid (And.intro hp (And.intro hcx (And.intro hel (And.intro hh (And.intro hc1 (And.intro hc2 (And.intro hb H.e)))))))
  have HF := Lib.hid (show f ≤ 10000000 ∧ 0 ≤ 10000000 ∧ 0 < C.length ∧ C.length ≤ 10000000 by omega)
  have HH := Lib.hid (And.intro hd0 H.r)
  clear hcx hh hp hel hsz hfr hb hc1 hc2 H hd0
  go_enter Try.func79, Try.ntmps79
  go_wp2_with fail
  have m0 : Mod no w ((w.alloc (.cells #[.int .u8 0, .int .u8 0, .int .u8 0, .int .u8 0, .int .u8 0, .int .u8 0, .int .u8 0, .int .u8 0, .int .u8 0, .int .u8 0, .int .u8 0, .int .u8 0, .int .u8 0, .int .u8 0, .int .u8 0, .int .u8 0, .int .u8 0, .int .u8 0, .int .u8 0, .int .u8 0, .int .u8 0, .int .u8 0, .int .u8 0, .int .u8 0, .int .u8 0, .int .u8 0, .int .u8 0, .int .u8 0, .int .u8 0, .int .u8 0, .int .u8 0, .int .u8 0, .int .i64 0] 89)).alloc (.cells #[.int .u8 0, .int .u8 0, .int .u8 0, .int .u8 0, .int .u8 0, .int .u8 0, .int .u8 0, .int .u8 0, .int .u8 0, .int .u8 0, .int .u8 0, .int .u8 0, .int .u8 0, .int .u8 0, .int .u8 0, .int .u8 0, .int .u8 0, .int .u8 0, .int .u8 0, .int .u8 0, .int .u8 0, .int .u8 0, .int .u8 0, .int .u8 0, .int .u8 0, .int .u8 0, .int .u8 0, .int .u8 0, .int .u8 0, .int .u8 0, .int .u8 0, .int .u8 0, .int .i64 0] 89)) := ((Mod.refl no w).alloc _).alloc _
  have b2 : Blk ((w.alloc (.cells #[.int .u8 0, .int .u8 0, .int .u8 0, .int .u8 0, .int .u8 0, .int .u8 0, .int .u8 0, .int .u8 0, .int .u8 0, .int .u8 0, .int .u8 0, .int .u8 0, .int .u8 0, .int .u8 0, .int .u8 0, .int .u8 0, .int .u8 0, .int .u8 0, .int .u8 0, .int .u8 0, .int .u8 0, .int .u8 0, .int .u8 0, .int .u8 0, .int .u8 0, .int .u8 0, .int .u8 0, .int .u8 0, .int .u8 0, .int .u8 0, .int .u8 0, .int .u8 0, .int .i64 0] 89)).alloc (.cells #[.int .u8 0, .int .u8 0, .int .u8 0, .int .u8 0, .int .u8 0, .int .u8 0, .int .u8 0, .int .u8 0, .int .u8 0, .int .u8 0, .int .u8 0, .int .u8 0, .int .u8 0, .int .u8 0, .int .u8 0, .int .u8 0, .int .u8 0, .int .u8 0, .int .u8 0, .int .u8 0, .int .u8 0, .int .u8 0, .int .u8 0, .int .u8 0, .int .u8 0, .int .u8 0, .int .u8 0, .int .u8 0, .int .u8 0, .int .u8 0, .int .u8 0, .int .u8 0, .int .i64 0] 89)) w.heap.size 89 zl.toArray := (Blk.new w _ _).alloc _
  have b4 : Blk ((w.alloc (.cells #[.int .u8 0, .int .u8 0, .int .u8 0, .int .u8 0, .int .u8 0, .int .u8 0, .int .u8 0, .int .u8 0, .int .u8 0, .int .u8 0, .int .u8 0, .int .u8 0, .int .u8 0, .int .u8 0, .int .u8 0, .int .u8 0, .int .u8 0, .int .u8 0, .int .u8 0, .int .u8 0, .int .u8 0, .int .u8 0, .int .u8 0, .int .u8 0, .int .u8 0, .int .u8 0, .int .u8 0, .int .u8 0, .int .u8 0, .int .u8 0, .int .u8 0, .int .u8 0, .int .i64 0] 89)).alloc (.cells #[.int .u8 0, .int .u8 0, .int .u8 0, .int .u8 0, .int .u8 0, .int .u8 0, .int .u8 0, .int .u8 0, .int .u8 0, .int .u8 0, .int .u8 0, .int .u8 0, .int .u8 0, .int .u8 0, .int .u8 0, .int .u8 0, .int .u8 0, .int .u8 0, .int .u8 0, .int .u8 0, .int .u8 0, .int .u8 0, .int .u8 0, .int .u8 0, .int .u8 0, .int .u8 0, .int .u8 0, .int .u8 0, .int .u8 0, .int .u8 0, .int .u8 0, .int .u8 0, .int .i64 0] 89)) (w.heap.size + 1) 89 zl.toArray := by
    have h := Blk.new (w.alloc (.cells #[.int .u8 0, .int .u8 0, .int .u8 0, .int .u8 0, .int .u8 0, .int .u8 0, .int .u8 0, .int .u8 0, .int .u8 0, .int .u8 0, .int .u8 0, .int .u8 0, .int .u8 0, .int .u8 0, .int .u8 0, .int .u8 0, .int .u8 0, .int .u8 0, .int .u8 0, .int .u8 0, .int .u8 0, .int .u8 0, .int .u8 0, .int .u8 0, .int .u8 0, .int .u8 0, .int .u8 0, .int .u8 0, .int .u8 0, .int .u8 0, .int .u8 0, .int .u8 0, .int .i64 0] 89)) 89 zl.toArray
    rw [show ((w.alloc (.cells #[.int .u8 0, .int .u8 0, .int .u8 0, .int .u8 0, .int .u8 0, .int .u8 0, .int .u8 0, .int .u8 0, .int .u8 0, .int .u8 0, .int .u8 0, .int .u8 0, .int .u8 0, .int .u8 0, .int .u8 0, .int .u8 0, .int .u8 0, .int .u8 0, .int .u8 0, .int .u8 0, .int .u8 0, .int .u8 0, .int .u8 0, .int .u8 0, .int .u8 0, .int .u8 0, .int .u8 0, .int .u8 0, .int .u8 0, .int .u8 0, .int .u8 0, .int .u8 0, .int .i64 0] 89))).heap.size = w.heap.size + 1 from by simp] at h
    exact h
  have H1 := Lib.hid (And.intro (And.intro (HH.out.1.mod m0 (fun c => c)) (HH.out.2.mod m0 (fun c => c))) (And.intro b2 (And.intro b4 m0)))
  clear m0 b2 b4
  generalize ((w.alloc (.cells #[.int .u8 0, .int .u8 0, .int .u8 0, .int .u8 0, .int .u8 0, .int .u8 0, .int .u8 0, .int .u8 0, .int .u8 0, .int .u8 0, .int .u8 0, .int .u8 0, .int .u8 0, .int .u8 0, .int .u8 0, .int .u8 0, .int .u8 0, .int .u8 0, .int .u8 0, .int .u8 0, .int .u8 0, .int .u8 0, .int .u8 0, .int .u8 0, .int .u8 0, .int .u8 0, .int .u8 0, .int .u8 0, .int .u8 0, .int .u8 0, .int .u8 0, .int .u8 0, .int .i64 0] 89)).alloc (.cells #[.int .u8 0, .int .u8 0, .int .u8 0, .int .u8 0, .int .u8 0, .int .u8 0, .int .u8 0, .int .u8 0, .int .u8 0, .int .u8 0, .int .u8 0, .int .u8 0, .int .u8 0, .int .u8 0, .int .u8 0, .int .u8 0, .int .u8 0, .int .u8 0, .int .u8 0, .int .u8 0, .int .u8 0, .int .u8 0, .int .u8 0, .int .u8 0, .int .u8 0, .int .u8 0, .int .u8 0, .int .u8 0, .int .u8 0, .int .u8 0, .int .u8 0, .int .u8 0, .int .i64 0] 89)) = w1 at *
  refine (len_raw H1.out.1.1).mono ?_
  rintro e w2 ⟨rfl, rfl⟩
  have hs1 := H1.out.2.2.2.size
  go_wp2_with fail
  refine (take_any H1.out.1.1 H1.out.1.2 HP.out.2.2.2.2.2.2.2 HP.out.2.2.2.2.2.2.1 HP.out.1 HF.out.1 (Nat.zero_le _) HP.out.2.1 hne).mono ?_
  rintro e w3 ⟨rfl, hr3, m3⟩
  have hs3 := m3.size
  have H3 := Lib.hid (And.intro (H1.out.1.1.mod m3 hne) (And.intro hr3 (And.intro (H1.out.2.1.mod m3 (fun c => by have c : w.heap.size = gr := c; omega)) ((H1.out.2.2.2.mono (S' := two g gr) (fun _ _ c => c.elim)).and_then (m3.mono (S' := two g gr) (fun _ _ c => .inr c))))))
  clear hr3 m3
  go_wp2_with (first
    | (refine wpList_store_mid rfl 89 (.tmp 5) (.tmp 11) rfl w3.heap.size 0 x.toArray rfl rfl (by rw [ele_size HP.out.2.2.1]; exact var_there (Blk.new w3 _ _) rfl) (ele_info HP.out.2.2.1) (ele_one HP.out.2.2.1) ?_
       simp only [List.toList_toArray]
       obtain ⟨b5, m5⟩ := var_set (Blk.new w3 89 #[.int .u8 0, .int .u8 0, .int .u8 0, .int .u8 0, .int .u8 0, .int .u8 0, .int .u8 0, .int .u8 0, .int .u8 0, .int .u8 0, .int .u8 0, .int .u8 0, .int .u8 0, .int .u8 0, .int .u8 0, .int .u8 0, .int .u8 0, .int .u8 0, .int .u8 0, .int .u8 0, .int .u8 0, .int .u8 0, .int .u8 0, .int .u8 0, .int .u8 0, .int .u8 0, .int .u8 0, .int .u8 0, .int .u8 0, .int .u8 0, .int .u8 0, .int .u8 0, .int .i64 0]) rfl HP.out.2.2.1
       have m5' : Mod no w3 ((w3.alloc (.cells #[.int .u8 0, .int .u8 0, .int .u8 0, .int .u8 0, .int .u8 0, .int .u8 0, .int .u8 0, .int .u8 0, .int .u8 0, .int .u8 0, .int .u8 0, .int .u8 0, .int .u8 0, .int .u8 0, .int .u8 0, .int .u8 0, .int .u8 0, .int .u8 0, .int .u8 0, .int .u8 0, .int .u8 0, .int .u8 0, .int .u8 0, .int .u8 0, .int .u8 0, .int .u8 0, .int .u8 0, .int .u8 0, .int .u8 0, .int .u8 0, .int .u8 0, .int .u8 0, .int .i64 0] 89)).setCells w3.heap.size 0 x) := mod_new ((Mod.refl no w3).alloc _) m5 (Nat.le_refl _)
       have H4 := Lib.hid (And.intro (H3.out.1.mod m5' (fun c => c)) (And.intro (H3.out.2.1.mod m5' (fun c => c)) (And.intro (H3.out.2.2.1.mod m5' (fun c => c)) (And.intro (H3.out.2.2.2.and_then (m5'.mono (S' := two g gr) (fun _ _ c => c.elim))) b5))))
       clear b5 m5 m5'
       generalize (w3.alloc (.cells #[.int .u8 0, .int .u8 0, .int .u8 0, .int .u8 0, .int .u8 0, .int .u8 0, .int .u8 0, .int .u8 0, .int .u8 0, .int .u8 0, .int .u8 0, .int .u8 0, .int .u8 0, .int .u8 0, .int .u8 0, .int .u8 0, .int .u8 0, .int .u8 0, .int .u8 0, .int .u8 0, .int .u8 0, .int .u8 0, .int .u8 0, .int .u8 0, .int .u8 0, .int .u8 0, .int .u8 0, .int .u8 0, .int .u8 0, .int .u8 0, .int .u8 0, .int .u8 0, .int .i64 0] 89)).setCells w3.heap.size 0 x = w4 at *))
  obtain ⟨q, hqq⟩ : ∃ q, q = (f + 1) % C.length := ⟨_, rfl⟩
  have HQ := Lib.hid hqq
  clear hqq
  refine (place_any (p := q) (i := 1) HQ.out H4.out.1 HF.out.1 (by decide) HF.out.2.2.1 HF.out.2.2.2).mono ?_
  rintro e w5 ⟨rfl, n5, hw5⟩
  have m5 : Mod no w4 w5 := by rw [hw5]; exact (Mod.refl no _).drewN n5
  have hd5 := H4.out.1.mod m5 (fun c => c)
  have e2 := hd5.cell 2
  have g2 := hd5.free 2
  have e3 := hd5.cell 3
  have g3 := hd5.free 3
  simp at e2 e3
  have H5 := Lib.hid (And.intro hd5 (And.intro (H4.out.2.1.mod m5 (fun c => c)) (And.intro (H4.out.2.2.1.mod m5 (fun c => c)) (And.intro (H4.out.2.2.2.1.and_then (m5.mono (S' := two g gr) (fun _ _ c => c.elim))) (H4.out.2.2.2.2.mod m5 (fun c => c))))))
  clear hd5 m5 hw5 H4
  go_wp2_with (first
    | (have hd6 := (H5.out.1.put 2 (.int .i64 (q : Int))).put 3 (.int .i64 (L.length : Int))
       simp at hd6
       have hgt : w.heap.size ≠ g := by omega
       have hgt3 : w3.heap.size ≠ g := by omega
       have H6 := Lib.hid (And.intro hd6 (And.intro ((H5.out.2.1.far (p := ⟨g, 2, none⟩) hne' (.int .i64 (q : Int))).far (p := ⟨g, 3, none⟩) hne' (.int .i64 (L.length : Int))) (And.intro ((H5.out.2.2.1.far (p := ⟨g, 2, none⟩) hgt (.int .i64 (q : Int))).far (p := ⟨g, 3, none⟩) hgt (.int .i64 (L.length : Int))) (And.intro ((H5.out.2.2.2.1.set (p := ⟨g, 2, none⟩) (fun _ => .inl rfl) (.int .i64 (q : Int))).set (p := ⟨g, 3, none⟩) (fun _ => .inl rfl) (.int .i64 (L.length : Int))) ((H5.out.2.2.2.2.far (p := ⟨g, 2, none⟩) hgt3 (.int .i64 (q : Int))).far (p := ⟨g, 3, none⟩) hgt3 (.int .i64 (L.length : Int)))))))
       clear hd6
       refine wpList_load_mid rfl 89 (.tmp 5) rfl w3.heap.size 0 rfl x _ (var_range H6.out.2.2.2.2) Try.underlying89 rfl (grey_info HP.out.2.2.1.1) ?_
       generalize (w5.setCell ⟨g, 2, none⟩ (.int .i64 (q : Int))).setCell ⟨g, 3, none⟩ (.int .i64 (L.length : Int)) = w6 at *)
    | (refine wpList_store_mid rfl 89 (.tmp 2) (.tmp 24) rfl w.heap.size 0 x.toArray rfl rfl (by rw [ele_size HP.out.2.2.1]; exact var_there H6.out.2.2.1 rfl) (ele_info HP.out.2.2.1) (ele_one HP.out.2.2.1) ?_
       simp only [List.toList_toArray]
       obtain ⟨b7, m7⟩ := var_set H6.out.2.2.1 rfl HP.out.2.2.1
       have H7 := Lib.hid (And.intro (H6.out.1.mod m7 (fun c => by have c : g = w.heap.size := c; omega)) (And.intro (H6.out.2.1.mod m7 (fun c => by have c : gr = w.heap.size := c; omega)) (And.intro b7 (mod_new H6.out.2.2.2.1 m7 (Nat.le_refl _)))))
       clear b7 m7
       generalize w6.setCells w.heap.size 0 x = w7 at *))
  refine grey_done HP.out.2.2.1.1 (var_range H7.out.2.2.1) _ rfl rfl rfl _ Try.results79 _ ⟨rfl, ?_, H7.out.2.2.2⟩
  obtain ⟨hp, hcx, hel, hh, hc1, hc2, hb, he⟩ := HP.out
  rw [← HQ.out] at hh
  exact ⟨C.set f zl, q, ⟨by rw [List.length_set]; exact H7.out.1, H7.out.2.1, ele_set he zl_ele, hh, by rw [List.length_set]; exact hb⟩, by rw [List.length_set]; exact hc1, by rw [List.length_set]; exact hc2⟩

end Go.Proofs.Ytknbehjhaaidoaa.DG
