/- IndexExact: the texts NlA NlB ExM ExA ExB of this seat, one behind the other. -/
import Derived.Test.YtknbehjhaaidoaaM17
import Derived.Test.YtknbehjhaaidoaaM24
import Derived.Test.YtknbehjhaaidoaaM14
import Derived.Test.YtknbehjhaaidoaaM18
import Derived.ChangeKeysEq
/- An index that is nil. -/
namespace Go.Proofs.Ytknbehjhaaidoaa.IX
open Go.RowKit Go.Shelf Mem HD TB
set_option linter.unusedVariables false
set_option linter.unusedSimpArgs false
set_option maxRecDepth 100000 in
theorem nthere_any (w : World) : Calls Try.prog 53 #[.pointer none] w fun e w' => e = .returned (.bool false) ∧ w' = w := by
  go_enter Try.func53, Try.ntmps53
  go_wp2_with fail
  go_ret
  exact ⟨rfl, rfl⟩
set_option maxRecDepth 100000 in
theorem nget_any (w : World) (k : Key) : Calls Try.prog 52 #[.pointer none, .agg k.L.toArray] w fun e w' => e = .returned (gotV none) ∧ Mod no w w' := by
  have hw := w2_facts w k
  have HA := Lib.hid hw
  clear hw
  go_enter Try.func52, Try.ntmps52
  go_upto_region 1 with fail
  obtain ⟨w2, hw2⟩ : ∃ w2, w2 = W2 w k := ⟨_, rfl⟩
  change Code.wp _ _ _ _ (W2 w k)
  rw [← hw2] at HA ⊢
  clear hw2
  obtain ⟨h0, hh0⟩ : ∃ h0, h0 = w.heap.size := ⟨_, rfl⟩
  have HH := Lib.hid hh0
  rw [← hh0] at HA ⊢
  clear hh0
  go_wp2_with (first
    | (go_at_call 53; refine (nthere_any _).mono ?_; rintro e w' ⟨rfl, rfl⟩)
    | (refine wpList_op rfl (y_e0 rfl) ?_)
    | (refine wpList_store_mid rfl 56 (.tmp 4) (.tmp 9) (by rfl) (h0 + 1) 0 e0.L.toArray (by rfl) (by rfl) (by exact blk_there HA.out.2.2 0 4 (by decide)) (ent_sizeG _) (all_oneCell_toArray (ent_ones _)) ?_))
  exact bodyPost_ret (v := gotV none) (ret_two (p := 4) (u := 5) (ty := 56) rfl _ _ (h0 + 1) e0.L _ rfl rfl (World.rangeAt_setCells_same _ _ _ _ (blk_there HA.out.2.2 0 4 (by decide))) Try.underlying56 rfl (ent_sizeG _)) rfl ⟨rfl, mod_setCells (fun c => by have := HH.out; omega) _ _ _ HA.out.1⟩
set_option maxRecDepth 100000 in
theorem ndel_any (w : World) (k : Key) : Calls Try.prog 24 #[.pointer none, .agg k.L.toArray] w fun e w' => e = .returned (gotV none) ∧ Mod no w w' := by
  have hw := w2_facts w k
  have HA := Lib.hid hw
  clear hw
  go_enter Try.func24, Try.ntmps24
  go_upto_region 1 with fail
  obtain ⟨w2, hw2⟩ : ∃ w2, w2 = W2 w k := ⟨_, rfl⟩
  change Code.wp _ _ _ _ (W2 w k)
  rw [← hw2] at HA ⊢
  clear hw2
  obtain ⟨h0, hh0⟩ : ∃ h0, h0 = w.heap.size := ⟨_, rfl⟩
  have HH := Lib.hid hh0
  rw [← hh0] at HA ⊢
  clear hh0
  go_wp2_with (first
    | (go_at_call 53; refine (nthere_any _).mono ?_; rintro e w' ⟨rfl, rfl⟩)
    | (refine wpList_op rfl (y_e0 rfl) ?_)
    | (refine wpList_store_mid rfl 56 (.tmp 4) (.tmp 9) (by rfl) (h0 + 1) 0 e0.L.toArray (by rfl) (by rfl) (by exact blk_there HA.out.2.2 0 4 (by decide)) (ent_sizeG _) (all_oneCell_toArray (ent_ones _)) ?_))
  exact bodyPost_ret (v := gotV none) (ret_two (p := 4) (u := 5) (ty := 56) rfl _ _ (h0 + 1) e0.L _ rfl rfl (World.rangeAt_setCells_same _ _ _ _ (blk_there HA.out.2.2 0 4 (by decide))) Try.underlying56 rfl (ent_sizeG _)) rfl ⟨rfl, mod_setCells (fun c => by have := HH.out; omega) _ _ _ HA.out.1⟩
set_option maxRecDepth 100000 in
theorem nput_any (w : World) (k : Key) (v : Ent) : Calls Try.prog 20 #[.pointer none, .agg k.L.toArray, .agg v.L.toArray] w fun e w' => e = .returned (.bool false) ∧ Mod no w w' := by
  have hw := w2e_facts w k v
  have HA := Lib.hid hw
  clear hw
  go_enter Try.func20, Try.ntmps20
  go_upto_region 1 with fail
  obtain ⟨w2, hw2⟩ : ∃ w2, w2 = W2e w k v := ⟨_, rfl⟩
  change Code.wp _ _ _ _ (W2e w k v)
  rw [← hw2] at HA ⊢
  clear hw2
  obtain ⟨h0, hh0⟩ : ∃ h0, h0 = w.heap.size := ⟨_, rfl⟩
  rw [← hh0] at HA ⊢
  clear hh0
  go_upto_region 2 with (first
    | (refine wpList_load_mid rfl 39 (.tmp 4) (by rfl) h0 0 (by rfl) k.L _ (by exact HA.out.2.1) Try.underlying39 rfl (key_sizeG k.len) ?_)
    | (go_at_call 52; refine (nget_any _ k).mono ?_; rintro e w3 ⟨rfl, hm3⟩; rw [gotV_eq]; have H3 := Lib.hid hm3; clear hm3)
    | (refine wpList_store_mid rfl 56 (.tmp 7) (.tmp 13) (by rfl) w3.heap.size 0 e0.L.toArray (by rfl) (by rfl) (by exact blk_there (Blk.new w3 56 e0.L.toArray) 0 4 (Nat.le_refl 4)) (ent_sizeG _) (all_oneCell_toArray (ent_ones _)) ?_))
  obtain ⟨w4, hw4⟩ : ∃ w4, w4 = World.setCells (w3.alloc (.cells #[.int .i64 0, .int .i64 0, .int .i64 0, .int .u32 0] 56)) w3.heap.size 0 e0.L.toArray.toList := ⟨_, rfl⟩
  have m34 : Mod no w3 w4 := by rw [hw4]; exact mod_setCells (fun c => by omega) _ _ _ ((Mod.refl no w3).alloc _)
  have H4 := Lib.hid (HA.out.1.and_then (H3.out.and_then m34))
  change Code.wp _ _ _ _ (World.setCells (w3.alloc (.cells #[.int .i64 0, .int .i64 0, .int .i64 0, .int .u32 0] 56)) w3.heap.size 0 e0.L.toArray.toList)
  rw [← hw4]
  clear hw4 m34
  go_wp2_with (first
    | (go_at_call 53; refine (nthere_any _).mono ?_; rintro e w' ⟨rfl, rfl⟩))
  go_ret
  exact ⟨rfl, H4.out⟩
set_option maxRecDepth 100000 in
theorem nmark_any (w : World) (k : Key) (m : Int) : Calls Try.prog 68 #[.pointer none, .agg k.L.toArray, .int .u32 m] w fun e w' => e = .returned (.bool false) ∧ Mod no w w' := by
  have hw := key1_facts w k
  have HA := Lib.hid hw
  clear hw
  go_enter Try.func68, Try.ntmps68
  go_upto_region 1 with fail
  obtain ⟨w2, hw2⟩ : ∃ w2, w2 = w.alloc (.cells k.L.toArray 39) := ⟨_, rfl⟩
  rw [← hw2] at HA ⊢
  clear hw2
  obtain ⟨h0, hh0⟩ : ∃ h0, h0 = w.heap.size := ⟨_, rfl⟩
  rw [← hh0] at HA ⊢
  clear hh0
  go_upto_region 2 with (first
    | (refine wpList_load_mid rfl 39 (.tmp 4) (by rfl) h0 0 (by rfl) k.L _ (by exact HA.out.2) Try.underlying39 rfl (key_sizeG k.len) ?_)
    | (go_at_call 52; refine (nget_any _ k).mono ?_; rintro e w3 ⟨rfl, hm3⟩; rw [gotV_eq]; have H3 := Lib.hid hm3; clear hm3)
    | (refine wpList_store_mid rfl 56 (.tmp 7) (.tmp 13) (by rfl) w3.heap.size 0 e0.L.toArray (by rfl) (by rfl) (by exact blk_there (Blk.new w3 56 e0.L.toArray) 0 4 (Nat.le_refl 4)) (ent_sizeG _) (all_oneCell_toArray (ent_ones _)) ?_))
  obtain ⟨w4, hw4⟩ : ∃ w4, w4 = World.setCells (w3.alloc (.cells #[.int .i64 0, .int .i64 0, .int .i64 0, .int .u32 0] 56)) w3.heap.size 0 e0.L.toArray.toList := ⟨_, rfl⟩
  have m34 : Mod no w3 w4 := by rw [hw4]; exact mod_setCells (fun c => by omega) _ _ _ ((Mod.refl no w3).alloc _)
  have H4 := Lib.hid (HA.out.1.and_then (H3.out.and_then m34))
  change Code.wp _ _ _ _ (World.setCells (w3.alloc (.cells #[.int .i64 0, .int .i64 0, .int .i64 0, .int .u32 0] 56)) w3.heap.size 0 e0.L.toArray.toList)
  rw [← hw4]
  clear hw4 m34
  go_wp2_with fail
  go_ret
  exact ⟨rfl, H4.out⟩
set_option maxRecDepth 100000 in
theorem nmove_any (w : World) (k : Key) (s o s' o' : Int) : Calls Try.prog 70 #[.pointer none, .agg k.L.toArray, .agg #[.int .i64 s, .int .i64 o], .agg #[.int .i64 s', .int .i64 o']] w fun e w' => e = .returned (.bool false) ∧ Mod no w w' := by
  have hw := w3_facts w k s o s' o'
  have HA := Lib.hid hw
  clear hw
  go_enter Try.func70, Try.ntmps70
  go_upto_region 1 with fail
  obtain ⟨w2, hw2⟩ : ∃ w2, w2 = W3 w k s o s' o' := ⟨_, rfl⟩
  change Code.wp _ _ _ _ (W3 w k s o s' o')
  rw [← hw2] at HA ⊢
  clear hw2
  obtain ⟨h0, hh0⟩ : ∃ h0, h0 = w.heap.size := ⟨_, rfl⟩
  rw [← hh0] at HA ⊢
  clear hh0
  go_upto_region 2 with (first
    | (refine wpList_load_mid rfl 39 (.tmp 5) (by rfl) h0 0 (by rfl) k.L _ (by exact HA.out.2.1) Try.underlying39 rfl (key_sizeG k.len) ?_)
    | (go_at_call 52; refine (nget_any _ k).mono ?_; rintro e w3 ⟨rfl, hm3⟩; rw [gotV_eq]; have H3 := Lib.hid hm3; clear hm3)
    | (refine wpList_store_mid rfl 56 (.tmp 9) (.tmp 15) (by rfl) w3.heap.size 0 e0.L.toArray (by rfl) (by rfl) (by exact blk_there (Blk.new w3 56 e0.L.toArray) 0 4 (Nat.le_refl 4)) (ent_sizeG _) (all_oneCell_toArray (ent_ones _)) ?_))
  obtain ⟨w4, hw4⟩ : ∃ w4, w4 = World.setCells (w3.alloc (.cells #[.int .i64 0, .int .i64 0, .int .i64 0, .int .u32 0] 56)) w3.heap.size 0 e0.L.toArray.toList := ⟨_, rfl⟩
  have m34 : Mod no w3 w4 := by rw [hw4]; exact mod_setCells (fun c => by omega) _ _ _ ((Mod.refl no w3).alloc _)
  have H4 := Lib.hid (HA.out.1.and_then (H3.out.and_then m34))
  change Code.wp _ _ _ _ (World.setCells (w3.alloc (.cells #[.int .i64 0, .int .i64 0, .int .i64 0, .int .u32 0] 56)) w3.heap.size 0 e0.L.toArray.toList)
  rw [← hw4]
  clear hw4 m34
  go_wp2_with fail
  go_ret
  exact ⟨rfl, H4.out⟩
set_option maxRecDepth 100000 in
theorem nsizes_any (w : World) : Calls Try.prog 56 #[.pointer none] w fun e w' => e = .returned (.agg (szL (fun _ => 0) 16).toArray) ∧ Mod no w w' := by
  have hw := s2_facts w (fun _ => 0)
  have h2 : szL (fun _ => 0) 0 = szL (fun _ => 0) 16 := by
    unfold szL
    exact List.map_congr_left fun s _ => by simp
  rw [h2] at hw
  have HA := Lib.hid hw
  clear hw h2
  go_enter Try.func56, Try.ntmps56
  go_upto_region 2 with fail
  obtain ⟨w2, hw2⟩ : ∃ w2, w2 = S2 w := ⟨_, rfl⟩
  change Code.wp _ _ _ _ (S2 w)
  rw [← hw2] at HA ⊢
  clear hw2
  obtain ⟨h0, hh0⟩ : ∃ h0, h0 = w.heap.size := ⟨_, rfl⟩
  have HH2 := Lib.hid hh0
  rw [← hh0] at HA ⊢
  clear hh0
  go_wp2_with (first
    | (go_at_call 53; refine (nthere_any _).mono ?_; rintro e w' ⟨rfl, rfl⟩)
    | (refine wpList_op rfl (y_mid (cs := szL (fun _ => 0) 16) rfl rfl (blk_range HA.out.2.2) Try.underlying108 rfl (int16_sizeG (szL_len (fun _ => 0) 16))) ?_)
    | (refine wpList_store_mid rfl 108 (.tmp 2) (.tmp 21) rfl h0 0 (szL (fun _ => 0) 16).toArray rfl rfl (blk_there HA.out.2.1 0 _ (by simp [szL_len])) (by simpa using int16_sizeG (szL_len (fun _ => 0) 16)) (by simpa using szL_ones (fun _ => 0) 16) ?_))
  exact bodyPost_ret (v := .agg (szL (fun _ => 0) 16).toArray) (results_cell_row (p := 2) (ty := 108) rfl _ _ h0 108 (szL (fun _ => 0) 16).toArray (0, 0) _ rfl (by have h1 := blk_sets h0 (szL (fun _ => 0) 16) 0 (szL (fun _ => 0) 16) _ HA.out.2.1 (by simp [szL_len]); have h1 : Blk _ _ _ _ := h1; rw [show (szL (fun _ => 0) 16).take 0 ++ szL (fun _ => 0) 16 ++ (szL (fun _ => 0) 16).drop (0 + (szL (fun _ => 0) 16).length) = szL (fun _ => 0) 16 from by simp [szL_len, List.drop_of_length_le]] at h1; exact h1) Try.underlying108 rfl (by simpa using int16_sizeG (szL_len (fun _ => 0) 16))) rfl ⟨rfl, mod_setCells (S := no) (fun c => absurd c (by have := HH2.out; omega)) _ _ _ HA.out.1⟩
set_option maxRecDepth 100000 in
theorem nlen_any (w : World) : Calls Try.prog 21 #[.pointer none] w fun e w' => e = .returned (.int .i64 0) ∧ Mod no w w' := by
  go_enter Try.func21, Try.ntmps21
  go_wp2_with (first
    | (go_at_call 56; refine (nsizes_any w).mono ?_; rintro e w1 ⟨rfl, hm⟩; have HM := Lib.hid hm; clear hm))
  go_loopw [3, 8] (fun v3 v8 w' => ∃ i : Nat, i ≤ 16 ∧ v8 = .int .i64 (i : Int) ∧ v3 = .int .i64 0 ∧ w' = w1) (fun _ v8 _ => 16 - (intOf v8).toNat)
  case atStart => exact ⟨0, by omega, rfl, rfl, rfl⟩
  case round =>
    obtain ⟨i, hi, rfl, rfl, rfl⟩ := hrel
    by_cases hlt : i < 16
    · have g1 : (i : Int) < 16 := by omega
      have HL := Lib.hid hlt
      clear hlt hi
      go_wp2_with (first
        | (refine wpList_op rfl (y_ixi (f := fun i => 0) (i := i) rfl rfl rfl HL.out) ?_))
      have := HL.out
      exact ⟨⟨i + 1, HL.out, rfl, rfl, trivial⟩, by show 16 - ((i : Int) + 1).toNat < 16 - ((i : Int)).toNat; omega⟩
    · obtain rfl : i = 16 := by omega
      have g1 : ¬ ((16 : Nat) : Int) < 16 := by omega
      clear hlt hi
      go_wp2_with fail
      go_ret
      exact ⟨rfl, HM.out⟩
set_option maxRecDepth 100000 in
theorem nall_any (w : World) : Calls Try.prog 28 #[.pointer none] w fun e w' => e = .returned (.func (.func 62) #[] #[.pointer (some ⟨w.heap.size, 0, none⟩)]) ∧ Blk w' w.heap.size 77 #[.slice none 0 0] ∧ Mod no w w' := by
  go_enter Try.func28, Try.ntmps28
  go_upto_region 2 with fail
  obtain ⟨h0, hh0⟩ : ∃ h0, h0 = w.heap.size := ⟨_, rfl⟩
  obtain ⟨w2, hw2⟩ : ∃ w2, w2 = w.alloc (.cells #[.slice none 0 0] 77) := ⟨_, rfl⟩
  have HA := Lib.hid (show Blk w2 h0 77 #[.slice none 0 0] ∧ Mod no w w2 from by rw [hw2, hh0]; exact ⟨Blk.new _ _ _, (Mod.refl no w).alloc _⟩)
  have HH := Lib.hid hh0
  rw [← hw2, ← hh0]
  clear hw2 hh0
  have c0 : w2.cell? ⟨h0, 0, none⟩ = some (.slice none 0 0) := HA.out.1.cell 0
  go_wp2_with (first
    | (go_at_call 53; refine (nthere_any _).mono ?_; rintro e w' ⟨rfl, rfl⟩)
    | (go_at_call 60; go_loud (refine (sort_ok _ 0 (.slice none 0 0) [] (KvRow.nil _ _) (by decide)).mono ?_; rintro e w3 ⟨rfl, l', hp, _, _, hm3⟩; have H3 := Lib.hid (show Blk w3 h0 77 #[.slice none 0 0] ∧ Mod no w w3 from ⟨HA.out.1.mod hm3 (fun c => by cases c), HA.out.2.and_then (hm3.mono (fun x _ c => by cases c))⟩); clear hm3 hp c0)))
  go_ret
  rw [← HH.out]
  exact ⟨rfl, H3.out⟩
end Go.Proofs.Ytknbehjhaaidoaa.IX

/- Next of an index that is nil. -/
namespace Go.Proofs.Ytknbehjhaaidoaa.IX
open Go.RowKit Go.Shelf Mem HD TB
set_option linter.unusedVariables false
set_option linter.unusedSimpArgs false
theorem n5_own (w : World) (after : Key) (any : Bool) : Blk (N5 w after any) (w.heap.size + 2) 58 (kvL none).toArray ∧ Blk (N5 w after any) (w.heap.size + 3) 58 (kvL none).toArray ∧ Mod no w (N5 w after any) := by
  refine ⟨?_, ?_, (((((Mod.refl no w).alloc _).alloc _).alloc _).alloc _).alloc _⟩
  · exact ((Blk.new_at ((w.alloc (.cells after.L.toArray 39)).alloc (.cells #[.bool any] 4)) 58 _ (by simp)).alloc _).alloc _
  · exact (Blk.new_at (((w.alloc (.cells after.L.toArray 39)).alloc (.cells #[.bool any] 4)).alloc (.cells (kvL none).toArray 58)) 58 _ (by simp)).alloc _
set_option maxRecDepth 100000 in
theorem nnext_any (w : World) (k : Key) (any : Bool) : Calls Try.prog 22 #[.pointer none, .agg k.L.toArray, .bool any] w fun e w' => e = .returned (.tuple #[.agg (kvL none).toArray, .bool false]) ∧ Mod no w w' := by
  have HA := Lib.hid (n5_own w k any)
  go_enter Try.func22, Try.ntmps22
  go_upto_region 3 with fail
  obtain ⟨w5, hw5⟩ : ∃ w5, w5 = N5 w k any := ⟨_, rfl⟩
  change Code.wp _ _ _ _ (N5 w k any)
  rw [← hw5] at HA ⊢
  clear hw5
  obtain ⟨h0, hh0⟩ : ∃ h0, h0 = w.heap.size := ⟨_, rfl⟩
  have HH := Lib.hid hh0
  rw [← hh0] at HA ⊢
  clear hh0
  go_wp2_with (first
    | (go_at_call 53; refine (nthere_any _).mono ?_; rintro e w' ⟨rfl, rfl⟩)
    | (refine wpList_load_mid rfl 58 (.tmp 8) (by rfl) (h0 + 3) 0 (by rfl) (kvL none) _ (by exact blk_range HA.out.2.1) Try.underlying58 rfl (keyed_sizeG (kvL_len none)) ?_)
    | (refine wpList_store_mid rfl 58 (.tmp 6) (.tmp 17) (by rfl) (h0 + 2) 0 (kvL none).toArray (by rfl) (by rfl) (by exact blk_there HA.out.1 0 _ (by rw [List.size_toArray, kvL_len]; decide)) (by rw [List.size_toArray]; exact keyed_sizeG (kvL_len none)) (all_oneCell_toArray (kvL_ones none)) ?_))
  exact bodyPost_ret (v := .tuple #[.agg (kvL none).toArray, .bool false]) (ret_two (p := 6) (u := 7) (ty := 58) rfl _ _ (h0 + 2) (kvL none) _ rfl rfl (World.rangeAt_setCells_same _ _ _ _ (blk_there HA.out.1 0 _ (by rw [List.size_toArray, kvL_len]; decide))) Try.underlying58 rfl (keyed_sizeG (kvL_len none))) rfl ⟨rfl, mod_setCells (fun c => by have := HH.out; omega) _ _ _ HA.out.2.2⟩
end Go.Proofs.Ytknbehjhaaidoaa.IX

/- The document's list against the index's pairs: plain. -/
namespace Go.Proofs.Ytknbehjhaaidoaa.IX
open Go.RowKit Go.Shelf Mem HD TB
set_option linter.unusedVariables false
set_option linter.unusedSimpArgs false
/-- Rising keys. -/
def Srt (l : List (Key × Ent)) : Prop := l.Pairwise fun x y => klt x.1 y.1
theorem Srt.nk {l : List (Key × Ent)} (h : Srt l) : NK l := by
  unfold NK
  rw [List.Nodup, List.pairwise_map]
  refine h.imp ?_
  intro a b hab (c : a.1 = b.1)
  rw [c] at hab
  exact klt_irrefl _ hab
theorem srt_of {l : List (Key × Ent)} (hn : NK l) (hs : Sorted l) : Srt l := by
  unfold NK at hn
  rw [List.Nodup, List.pairwise_map] at hn
  refine (hn.and hs).imp ?_
  rintro a b ⟨h1, h2⟩
  rcases klt_tri a.1 b.1 with h | h | h
  · exact h
  · exact absurd h h1
  · exact absurd h h2
theorem nk_perm {l l' : List (Key × Ent)} (p : l.Perm l') (h : NK l) : NK l' := (p.map Prod.fst).nodup_iff.1 h
theorem srt_unique : ∀ {l l' : List (Key × Ent)}, Srt l → Srt l' → l.Perm l' → l = l'
  | [], l', _, _, p => (List.nil_perm.1 p).symm
  | x :: l, [], _, _, p => absurd p.symm (by simp)
  | x :: l, y :: l', h, h', p => by
    have h1 := List.pairwise_cons.1 h
    have h2 := List.pairwise_cons.1 h'
    have hx : x ∈ y :: l' := p.mem_iff.1 (List.mem_cons_self)
    have hy : y ∈ x :: l := p.mem_iff.2 (List.mem_cons_self)
    have e : x = y := by
      rcases List.mem_cons.1 hx with e | hx
      · exact e
      · rcases List.mem_cons.1 hy with e | hy
        · exact e.symm
        · exact absurd (h1.1 y hy) (klt_asymm (h2.1 x hx))
    subst e
    rw [srt_unique h1.2 h2.2 (p.cons_inv)]
theorem ins_perm (x : Key × Ent) : ∀ l : List (Key × Ent), (ins x l).Perm (x :: l)
  | [] => .refl _
  | y :: l => by
    unfold ins
    by_cases h : klt x.1 y.1
    · rw [if_pos h]
    · rw [if_neg h]; exact ((ins_perm x l).cons y).trans (.swap _ _ _)
theorem ins_srt {x : Key × Ent} : ∀ {l : List (Key × Ent)}, Srt l → (∀ y ∈ l, y.1 ≠ x.1) → Srt (ins x l)
  | [], _, _ => List.pairwise_singleton _ _
  | y :: l, h, hn => by
    have h1 := List.pairwise_cons.1 h
    unfold ins
    by_cases hk : klt x.1 y.1
    · rw [if_pos hk]
      exact List.pairwise_cons.2 ⟨fun z hz => by
        rcases List.mem_cons.1 hz with e | hz
        · rw [e]; exact hk
        · exact klt_trans hk (h1.1 z hz), h⟩
    · rw [if_neg hk]
      have hyx : klt y.1 x.1 := by
        rcases klt_tri x.1 y.1 with c | c | c
        · exact absurd c hk
        · exact absurd c.symm (hn y List.mem_cons_self)
        · exact c
      refine List.pairwise_cons.2 ⟨fun z hz => ?_, ins_srt h1.2 fun z hz => hn z (List.mem_cons_of_mem _ hz)⟩
      rcases List.mem_cons.1 ((ins_perm x l).mem_iff.1 hz) with e | hz
      · rw [e]; exact hyx
      · exact h1.1 z hz
theorem less_srt {l : List (Key × Ent)} (h : Srt l) (k : Key) : Srt (less l k) := List.Pairwise.filter _ h
theorem turn_fst (l : List (Key × Ent)) (k : Key) (e : Ent) : (turn l k e).map Prod.fst = l.map Prod.fst := by
  unfold turn
  rw [List.map_map]
  exact List.map_congr_left fun y _ => by
    show (if y.1 = k then (y.1, e) else y).1 = y.1
    by_cases h : y.1 = k
    · rw [if_pos h]
    · rw [if_neg h]
theorem srt_fst {l : List (Key × Ent)} : Srt l ↔ (l.map Prod.fst).Pairwise klt := by
  unfold Srt; rw [List.pairwise_map]
theorem turn_srt {l : List (Key × Ent)} (h : Srt l) (k : Key) (e : Ent) : Srt (turn l k e) := by
  rw [srt_fst, turn_fst]; exact srt_fst.1 h
theorem turn_len (l : List (Key × Ent)) (k : Key) (e : Ent) : (turn l k e).length = l.length := by unfold turn; rw [List.length_map]
theorem turn_perm {k : Key} {v0 e : Ent} : ∀ {l : List (Key × Ent)}, NK l → (k, v0) ∈ l → (turn l k e).Perm ((k, e) :: less l k)
  | [], _, h => by cases h
  | y :: l, hn, h => by
    have h2 := List.nodup_cons.1 (show (List.map Prod.fst (y :: l)).Nodup from hn)
    by_cases hk : y.1 = k
    · have h1 : ∀ z ∈ l, z.1 ≠ k := fun z hz c => h2.1 (List.mem_map.2 ⟨z, hz, by rw [c, hk]⟩)
      have h3 : turn l k e = l := by
        unfold turn
        have h4 : l.map (fun z => if z.1 = k then (z.1, e) else z) = l.map id := List.map_congr_left fun z hz => if_neg (h1 z hz)
        rw [h4, List.map_id]
      have h5 : less (y :: l) k = l := by
        unfold less
        rw [List.filter_cons_of_neg (by simp [hk])]
        exact List.filter_eq_self.2 fun z hz => decide_eq_true (h1 z hz)
      have h6 : turn (y :: l) k e = (k, e) :: turn l k e := by
        unfold turn
        rw [List.map_cons, if_pos hk, hk]
      rw [h5, h6, h3]
    · have hin : (k, v0) ∈ l := by
        rcases List.mem_cons.1 h with c | c
        · exact absurd (by rw [← c]) hk
        · exact c
      have h5 : less (y :: l) k = y :: less l k := by
        unfold less
        rw [List.filter_cons_of_pos (by simp [hk])]
      have h6 : turn (y :: l) k e = y :: turn l k e := by
        unfold turn
        rw [List.map_cons, if_neg hk]
      rw [h5, h6]
      exact ((turn_perm (show NK l from h2.2) hin).cons y).trans (.swap _ _ _)
theorem best_find {any : Bool} {after : Key} : ∀ {l L : List (Key × Ent)} {q : Option (Key × Ent)}, Srt l → l.Perm L → Best any after L q → q = l.find? fun x => asked any after x.1
  | l, L, none, hs, p, hb => (List.find?_eq_none.2 fun x hx => hb x (p.mem_iff.1 hx)).symm
  | l, L, some y, hs, p, hb => by
    obtain ⟨h1, h2, h3⟩ := hb
    cases hf : l.find? fun x => asked any after x.1 with
    | none => exact absurd h2 (List.find?_eq_none.1 hf y (p.mem_iff.2 h1))
    | some z =>
      obtain ⟨hz, xs, bs, e, hno⟩ := List.find?_eq_some_iff_append.1 hf
      have hy : y ∈ xs ++ z :: bs := by rw [← e]; exact p.mem_iff.2 h1
      have hzL : z ∈ L := p.mem_iff.1 (by rw [e]; simp)
      rcases List.mem_append.1 hy with hy | hy
      · have := hno y hy
        rw [h2] at this
        cases this
      · rcases List.mem_cons.1 hy with hy | hy
        · rw [hy]
        · rw [e] at hs
          have := (List.pairwise_cons.1 (List.pairwise_append.1 hs).2.1).1 y hy
          exact absurd this (h3 z hzL hz)
theorem cntS_perm {l l' : List (Key × Ent)} (p : l.Perm l') (s : Nat) : cntS l s = cntS l' s := (p.filter _).length_eq
theorem szL_congr {f g : Nat → Nat} (h : ∀ i, i < 16 → f i = g i) : szL f 16 = szL g 16 := by
  unfold szL
  exact List.map_congr_left fun j hj => by rw [h j (List.mem_range.1 hj)]
theorem flat_one {α : Type} {f : Nat → List α} {p : α → Bool} {i : Nat} : ∀ n, (∀ j, j < n → j ≠ i → ∀ x ∈ f j, ¬ p x = true) → (∀ x ∈ f i, p x = true) → ((List.range n).flatMap f).filter p = if i < n then f i else []
  | 0, _, _ => rfl
  | n + 1, ho, hi => by
    rw [List.range_succ, List.flatMap_append, List.filter_append, flat_one n (fun j hj => ho j (by omega)) hi, List.flatMap_singleton]
    by_cases e : n = i
    · subst e
      rw [if_neg (Nat.lt_irrefl _), if_pos (by omega), List.nil_append]
      exact List.filter_eq_self.2 hi
    · rw [List.filter_eq_nil_iff.2 (ho n (by omega) e), List.append_nil]
      by_cases h : i < n
      · rw [if_pos h, if_pos (by omega)]
      · rw [if_neg h, if_neg (by omega)]
theorem IxAt.cnt {w : World} {g : Nat} {R : Nat → Prop} {T : Nat → Tab Key Ent} {P : Nat → Nat} {Rs : Nat → Nat → Prop} (h : IxAt w g R T P Rs) {i : Nat} (hi : i < 16) : (T i).L.length = cntS (IL T) i := by
  unfold cntS IL
  rw [flat_one (i := i) 16 (fun j hj hne x hx c => hne (by rw [← h.sh j hj x.1 x.2 hx]; exact beq_iff_eq.1 c)) (fun x hx => beq_iff_eq.2 (h.sh i hi x.1 x.2 hx)), if_pos hi]
theorem IxAt.len {w : World} {g : Nat} {R : Nat → Prop} {T : Nat → Tab Key Ent} {P : Nat → Nat} {Rs : Nat → Nat → Prop} (h : IxAt w g R T P Rs) {i : Nat} (hi : i < 16) : (T i).L.length ≤ (IL T).length := by
  rw [h.cnt hi]; exact cntS_le _ _
end Go.Proofs.Ytknbehjhaaidoaa.IX

/- A step of the script; more operations. -/
namespace Go.Proofs.Ytknbehjhaaidoaa.IX
open Go.RowKit Go.Shelf Mem HD TB
set_option linter.unusedVariables false
set_option linter.unusedSimpArgs false
/-- A step. -/
structure Stp where
  kind : Int
  on : Int
  none_ : Bool
  key : Key
  ent : Ent
  ep : Int
  fs : Int
  fo : Int
  ts : Int
  tu : Int
  any : Bool
def Stp.L (s : Stp) : List Value := [.int .i64 s.kind, .int .i64 s.on, .bool s.none_] ++ (s.key.L ++ (s.ent.L ++ [.int .u32 s.ep, .int .i64 s.fs, .int .i64 s.fo, .int .i64 s.ts, .int .i64 s.tu, .bool s.any]))
theorem Stp.len (s : Stp) : s.L.length = 45 := by
  unfold Stp.L
  simp [Key.len, Ent.L]
theorem range_mid {w : World} {b o : Nat} {xs ys zs : List Value} {n : Nat} (h : w.rangeAt b o (xs ++ (ys ++ zs))) (hn : xs.length = n) : w.rangeAt b (o + n) ys ∧ w.rangeAt b (o + n) (ys ++ zs) := by
  have h2 : w.rangeAt b (o + n) (ys ++ zs) := fun j v hv => by
    rw [Nat.add_assoc]
    refine h (n + j) v ?_
    rw [List.getElem?_append_right (by omega), hn, Nat.add_sub_cancel_left]
    exact hv
  exact ⟨fun j v hv => h2 j v (by rw [List.getElem?_append_left (List.getElem?_eq_some_iff.1 hv).1]; exact hv), h2⟩
/-- A step in memory, field by field. -/
structure StAt (w : World) (b : Nat) (s : Stp) : Prop where
  kind : w.cell? ⟨b, 0, none⟩ = some (.int .i64 s.kind)
  on : w.cell? ⟨b, 1, none⟩ = some (.int .i64 s.on)
  none_ : w.cell? ⟨b, 2, none⟩ = some (.bool s.none_)
  key : w.rangeAt b 3 s.key.L
  ent : w.rangeAt b 35 s.ent.L
  ep : w.cell? ⟨b, 39, none⟩ = some (.int .u32 s.ep)
  from_ : w.rangeAt b 40 [.int .i64 s.fs, .int .i64 s.fo]
  to_ : w.rangeAt b 42 [.int .i64 s.ts, .int .i64 s.tu]
  any : w.cell? ⟨b, 44, none⟩ = some (.bool s.any)
  lt : b < w.heap.size
theorem stAt {w : World} {b : Nat} {s : Stp} (h : w.rangeAt b 0 s.L) : StAt w b s := by
  have h1 := range_mid (n := 3) h rfl
  have h2 := range_mid (n := 32) h1.2 (Key.len _)
  have h3 := range_mid (n := 4) (zs := []) (by rw [List.append_nil]; exact h2.2) rfl
  have h3 : w.rangeAt b 39 [.int .u32 s.ep, .int .i64 s.fs, .int .i64 s.fo, .int .i64 s.ts, .int .i64 s.tu, .bool s.any] := by have := h3.1; simpa using this
  have hk := h 0 _ rfl
  exact ⟨hk, h 1 _ rfl, h 2 _ rfl, by simpa using h1.1, by simpa using h2.1, h3 0 _ rfl,
    fun j v hv => by match j, hv with | 0, hv => exact h3 1 v hv | 1, hv => exact h3 2 v hv,
    fun j v hv => by match j, hv with | 0, hv => exact h3 3 v hv | 1, hv => exact h3 4 v hv, h3 5 _ rfl, cell_below hk⟩
theorem StAt.mod {S : Nat → Prop} {w w' : World} {b : Nat} {s : Stp} (h : StAt w b s) (m : Mod S w w') (hS : ¬ S b) : StAt w' b s := by
  have hc : ∀ o, w'.cell? ⟨b, o, none⟩ = w.cell? ⟨b, o, none⟩ := fun o => m.cell (p := ⟨b, o, none⟩) h.lt hS
  exact ⟨by rw [hc]; exact h.kind, by rw [hc]; exact h.on, by rw [hc]; exact h.none_, range_mod h.key m hS, range_mod h.ent m hS, by rw [hc]; exact h.ep, range_mod h.from_ m hS, range_mod h.to_ m hS, by rw [hc]; exact h.any, Nat.lt_of_lt_of_le h.lt m.size⟩
/-- Where a step's fields lie. -/
def stOff : Nat → Nat
  | 0 => 0 | 1 => 1 | 2 => 2 | 3 => 3 | 4 => 35 | 5 => 39 | 6 => 40 | 7 => 42 | _ => 44
section
variable {a : Act} {o : Oper} {w : World}
theorem y_fst {x : Operand} {g k : Nat} (hk : k < 9) (ho : o.op = .fieldAddr 73 x k) (hx : a.eval x = .pointer (some ⟨g, 0, none⟩)) : (execOp a.eval o).run Try.prog w = .ok (.value (.pointer (some ⟨g, stOff k, none⟩))) w := by
  generalize a.eval = ev at hx
  obtain rfl | rfl | rfl | rfl | rfl | rfl | rfl | rfl | rfl : k = 0 ∨ k = 1 ∨ k = 2 ∨ k = 3 ∨ k = 4 ∨ k = 5 ∨ k = 6 ∨ k = 7 ∨ k = 8 := by omega
  all_goals
    unfold execOp
    simp only [ho, hx, stOff]
    go_simp
theorem y_eqE1 {x y : Operand} {e : Ent} (ho : o.op = .binOp .eql 56 x y 56) (hx : a.eval x = .agg e.L.toArray) (hy : a.eval y = .agg e.L.toArray) : (execOp a.eval o).run Try.prog w = .ok (.value (.bool true)) w := by
  obtain ⟨s, u, z, m⟩ := e
  have h1 : (⟨s, u, z, m⟩ : Ent).L.toArray = #[.int .i64 s, .int .i64 u, .int .i64 z, .int .u32 m] := rfl
  rw [h1] at hx hy
  generalize a.eval = ev at hx hy
  unfold execOp
  simp only [ho, hx, hy]
  go_simp
theorem ent_same (e : Ent) (w : World) : (Op.equalIn 9999 56 (.agg e.L.toArray) (.agg e.L.toArray)).run Try.prog w = .ok true w := by
  obtain ⟨s, u, z, m⟩ := e
  have h1 : (⟨s, u, z, m⟩ : Ent).L.toArray = #[.int .i64 s, .int .i64 u, .int .i64 z, .int .u32 m] := rfl
  rw [h1]
  go_simp
theorem key_same (k : Key) (w : World) : (Op.equalIn 9999 39 (.agg k.L.toArray) (.agg k.L.toArray)).run Try.prog w = .ok true w := by
  have h := run_equalIn_bytes (P := Try.prog) w 9997 39 5 32 Try.underlying39 Try.underlying5 size_u8 k.1 k.1 k.2 k.2
  rw [show (k.1 == k.1) = true from beq_self_eq_true _] at h
  exact h
theorem part_agg {t : TypeId} {n off : Nat} {xs ys zs : List Value} (hI : (isAgg t).run Try.prog w = .ok true w) (hS : (sizeOf t).run Try.prog w = .ok n w) (hx : xs.length = off) (hy : ys.length = n) : (Go.part t (xs ++ (ys ++ zs)).toArray off).run Try.prog w = .ok (.agg ys.toArray) w := by
  have h1 : (xs ++ (ys ++ zs)).toArray.extract off (off + n) = ys.toArray := by
    subst hx; subst hy
    rw [List.extract_toArray, List.extract_eq_take_drop, List.drop_left, Nat.add_sub_cancel_left, List.take_left]
  unfold Go.part
  simp only [Sem.run_bind, hI, hS, Result.andThen_ok, if_true, Sem.run_pure, h1]
theorem kv_fields : (Try.prog.fieldsOf 58).toList.map (fun f => (f.name, f.type, f.offset)) = [("Key", 39, 0), ("Entry", 56, 32)] := by kernel_rfl
theorem kv_guard : Try.prog.eqGuardType Try.prog.depth 58 = false := by kernel_rfl
theorem kv_p1 (q : Option (Key × Ent)) (w : World) : (Go.part 39 (kvL q).toArray 0).run Try.prog w = .ok (.agg (q.getD (k0, e0)).1.L.toArray) w := part_agg (xs := []) (ys := (q.getD (k0, e0)).1.L) (zs := (q.getD (k0, e0)).2.L) (by exact Try.isAgg39 w) (by exact Try.sizeOf39 w) rfl (Key.len _)
theorem kv_p2 (q : Option (Key × Ent)) (w : World) : (Go.part 56 (kvL q).toArray 32).run Try.prog w = .ok (.agg (q.getD (k0, e0)).2.L.toArray) w := by
  have := part_agg (w := w) (xs := (q.getD (k0, e0)).1.L) (ys := (q.getD (k0, e0)).2.L) (zs := []) (t := 56) (by exact Try.isAgg56 w) (by exact Try.sizeOf56 w) (Key.len _) rfl
  rw [List.append_nil] at this
  exact this
theorem kv_under : Try.prog.underlying 58 = some (.struct (Try.prog.fieldsOf 58)) := by kernel_rfl
theorem kv_held : Try.prog.stoodInHeld 58 = false := by kernel_rfl
theorem kv_eqf (q : Option (Key × Ent)) (w : World) (d : Nat) (hk : ∀ k : Key, (Op.equalIn d 39 (.agg k.L.toArray) (.agg k.L.toArray)).run Try.prog w = .ok true w) (he : ∀ e : Ent, (Op.equalIn d 56 (.agg e.L.toArray) (.agg e.L.toArray)).run Try.prog w = .ok true w) : (fs : List Field) → fs.map (fun f => (f.name, f.type, f.offset)) = [("Key", 39, 0), ("Entry", 56, 32)] → (Op.eqFields d (kvL q).toArray (kvL q).toArray fs).run Try.prog w = .ok true w
  | [], h => by cases h
  | [_], h => absurd (congrArg List.length h) (by simp)
  | _ :: _ :: _ :: _, h => absurd (congrArg List.length h) (by simp)
  | [f1, f2], h => by
    simp only [List.map_cons, List.map_nil, List.cons.injEq, Prod.mk.injEq, and_true] at h
    obtain ⟨⟨n1, t1, o1⟩, n2, t2, o2⟩ := h
    have p1 := kv_p1 q w
    have p2 := kv_p2 q w
    have q1 := hk (q.getD (k0, e0)).1
    have q2 := he (q.getD (k0, e0)).2
    rw [← t1, ← o1] at p1
    rw [← t2, ← o2] at p2
    rw [← t1] at q1
    rw [← t2] at q2
    have m1 : f1.name ≠ "_" := by rw [n1]; decide
    have m2 : f2.name ≠ "_" := by rw [n2]; decide
    simp only [Op.eqFields, m1, m2, ne_eq, not_false_eq_true, if_true, Sem.run_bind, p1, p2, q1, q2, Result.andThen_ok, Bool.not_true, Bool.false_eq_true, if_false, Sem.run_pure]
theorem kv_same (q : Option (Key × Ent)) (w : World) : (Op.equalIn 10000 58 (.agg (kvL q).toArray) (.agg (kvL q).toArray)).run Try.prog w = .ok true w := by
  rw [run_equalIn_struct w 9999 58 _ _ kv_under kv_held]
  exact kv_eqf q w 9999 (fun k => key_same k w) (fun e => ent_same e w) _ kv_fields
theorem y_eqKV1 {x y : Operand} {q : Option (Key × Ent)} (ho : o.op = .binOp .eql 58 x y 58) (hx : a.eval x = .agg (kvL q).toArray) (hy : a.eval y = .agg (kvL q).toArray) : (execOp a.eval o).run Try.prog w = .ok (.value (.bool true)) w := by
  have he := kv_same q w
  generalize a.eval = ev at hx hy
  unfold execOp
  simp only [ho, hx, hy, Sem.run_bind, run_eqGuard_agg (P := Try.prog) w .eql 58 x y _ _ kv_guard, Result.andThen_ok, run_eql_struct, he, Sem.run_pure]
theorem items_same (xs : Array Value) (w : World) : ∀ is : List Nat, (∀ i ∈ is, ∃ n, xs[i]? = some (.int .i64 n)) → (Op.eqItems 9999 3 1 xs xs is).run Try.prog w = .ok true w
  | [], _ => rfl
  | i :: is, h => by
    obtain ⟨n, hn⟩ := h i List.mem_cons_self
    have ih := items_same xs w is fun j hj => h j (List.mem_cons_of_mem _ hj)
    have p1 : (Go.part 3 xs (i * 1)).run Try.prog w = .ok (.int .i64 n) w := run_part_plain w (by kernel_rfl) (by rw [Nat.mul_one]; exact hn)
    have e1 : (Op.equalIn 9999 3 (.int .i64 n) (.int .i64 n)).run Try.prog w = .ok true w := by
      have := run_equalIn_int (P := Try.prog) w 9998 3 .i64 .i64 n n Try.underlying3
      rw [show (n == n) = true from beq_self_eq_true _] at this
      exact this
    simp only [Op.eqItems, Sem.run_bind, p1, e1, Result.andThen_ok, Bool.not_true, Bool.false_eq_true, if_false]
    exact ih
theorem i16_guard : Try.prog.eqGuardType Try.prog.depth 108 = false := by kernel_rfl
theorem y_eqS1 {x y : Operand} {f : Nat → Nat} (ho : o.op = .binOp .eql 108 x y 108) (hx : a.eval x = .agg (szL f 16).toArray) (hy : a.eval y = .agg (szL f 16).toArray) : (execOp a.eval o).run Try.prog w = .ok (.value (.bool true)) w := by
  have hc : Try.prog.cellsOf 3 = 1 := by kernel_rfl
  have he : (Op.equalIn 10000 108 (.agg (szL f 16).toArray) (.agg (szL f 16).toArray)).run Try.prog w = .ok true w := by
    obtain ⟨i, hi⟩ := info_of_underlying Try.underlying3
    rw [run_equalIn_array (P := Try.prog) w 9999 _ _ Try.underlying108 hi, hc]
    exact items_same _ _ _ fun j hj => ⟨_, by rw [List.getElem?_toArray, szL_get, if_pos (List.mem_range.1 hj)]⟩
  generalize a.eval = ev at hx hy
  unfold execOp
  simp only [ho, hx, hy, Sem.run_bind, run_eqGuard_agg (P := Try.prog) w .eql 108 x y _ _ i16_guard, Result.andThen_ok, run_eql_struct, he, Sem.run_pure]
theorem y_eqb1 {x y : Operand} {b : Bool} (ho : o.op = .binOp .eql 4 x y 4) (hx : a.eval x = .bool b) (hy : a.eval y = .bool b) : (execOp a.eval o).run Try.prog w = .ok (.value (.bool true)) w := by
  generalize a.eval = ev at hx hy
  unfold execOp
  simp only [ho, hx, hy]
  go_simp
theorem kept_built (hL n c : Nat) (A : Option Addr) : Try.prog.built 81 [(0, .func (.func 62) #[] #[.pointer (some ⟨hL, 0, none⟩)]), (1, .slice A n c)] = some #[.func (.func 62) #[] #[.pointer (some ⟨hL, 0, none⟩)], .slice A n c] := by kernel_rfl
theorem y_kept {x y : Operand} {hL n c : Nat} {A : Option Addr} (ho : o.op = .build 81 #[(0, x), (1, y)]) (hx : a.eval x = .func (.func 62) #[] #[.pointer (some ⟨hL, 0, none⟩)]) (hy : a.eval y = .slice A n c) : (execOp a.eval o).run Try.prog w = .ok (.value (.agg #[.func (.func 62) #[] #[.pointer (some ⟨hL, 0, none⟩)], .slice A n c])) w := by
  have h := run_build (P := Try.prog) w 81 #[(0, .func (.func 62) #[] #[.pointer (some ⟨hL, 0, none⟩)]), (1, .slice A n c)] _ (kept_built hL n c A)
  unfold execOp
  simp only [ho, hx, hy, List.map_toArray, List.map_cons, List.map_nil, Sem.run_bind, h, Result.andThen_ok, Sem.run_pure]
theorem y_cvt {x : Operand} {n : Nat} (hn : n < 256) (ho : o.op = .convert 5 3 x) (hx : a.eval x = .int .u8 (n : Int)) : (execOp a.eval o).run Try.prog w = .ok (.value (.int .i64 (n : Int))) w := by
  have h2 : wrap64 (n : Int) = (n : Int) := IntWalk.wrap64_in _ (by omega)
  generalize a.eval = ev at hx
  unfold execOp
  simp only [ho, hx]
  go_simp
  exact IntWalk.i64_in _ (by omega)
theorem y_remi {x : Operand} {n : Nat} (hn : n < 256) (ho : o.op = .binOp .rem 3 x (.const (.int .i64 16)) 3) (hx : a.eval x = .int .i64 (n : Int)) : (execOp a.eval o).run Try.prog w = .ok (.value (.int .i64 ((n % 16 : Nat) : Int))) w := by
  have h2 : wrap64 ((n % 16 : Nat) : Int) = ((n % 16 : Nat) : Int) := IntWalk.wrap64_in _ (by omega)
  have h3 : ((n : Int).tmod 16) = ((n % 16 : Nat) : Int) := rfl
  generalize hev : a.eval = ev at hx
  have hz : ev (.const (.int .i64 16)) = .int .i64 16 := by rw [← hev]; rfl
  unfold execOp
  simp only [ho, hx, hz]
  go_simp
end
end Go.Proofs.Ytknbehjhaaidoaa.IX

/- The two sides of IndexExact: an index and the document's index beside it. -/
namespace Go.Proofs.Ytknbehjhaaidoaa.IX
open Go.RowKit Go.Shelf Mem HD TB
set_option linter.unusedVariables false
set_option linter.unusedSimpArgs false
/-- What is asked of an index (or of one that is nil) whose pairs are l. -/
structure Qs (w : World) (p : Value) (l : List (Key × Ent)) : Prop where
  get : ∀ W (k : Key), Mod no w W → Calls Try.prog 52 #[p, .agg k.L.toArray] W fun e W' => (∃ q, e = .returned (gotV q) ∧ TB.Found l k q) ∧ Mod no W W'
  next : ∀ W (k : Key) (any : Bool), Mod no w W → Calls Try.prog 22 #[p, .agg k.L.toArray, .bool any] W fun e W' => e = .returned (.tuple #[.agg (kvL (l.find? fun x => asked any k x.1)).toArray, .bool (l.find? fun x => asked any k x.1).isSome]) ∧ Mod no W W'
  all : ∀ W, Mod no w W → Calls Try.prog 28 #[p] W fun e W' => ∃ hL v, e = .returned (.func (.func 62) #[] #[.pointer (some ⟨hL, 0, none⟩)]) ∧ W.heap.size ≤ hL ∧ Blk W' hL 77 #[v] ∧ KvRow W' (hL + 1) v l ∧ Mod no W W'
  len : ∀ W, Mod no w W → Calls Try.prog 21 #[p] W fun e W' => e = .returned (.int .i64 (l.length : Int)) ∧ Mod no W W'
  sizes : ∀ W, Mod no w W → Calls Try.prog 56 #[p] W fun e W' => e = .returned (.agg (szL (cntS l) 16).toArray) ∧ Mod no W W'
theorem Qs.mod {w w' : World} {p : Value} {l : List (Key × Ent)} (h : Qs w p l) (m : Mod no w w') : Qs w' p l :=
  ⟨fun W k hW => h.get W k (m.and_then hW), fun W k a hW => h.next W k a (m.and_then hW), fun W hW => h.all W (m.and_then hW), fun W hW => h.len W (m.and_then hW), fun W hW => h.sizes W (m.and_then hW)⟩
theorem qs_nil (w : World) : Qs w (.pointer none) [] :=
  ⟨fun W k _ => (nget_any W k).mono fun e W' h => ⟨⟨none, h.1, fun v => ⟨fun e => (nomatch e), fun h => (nomatch h)⟩⟩, h.2⟩,
   fun W k a _ => nnext_any W k a,
   fun W _ => (nall_any W).mono fun e W' h => ⟨W.heap.size, .slice none 0 0, h.1, Nat.le_refl _, h.2.1, KvRow.nil _ _, h.2.2⟩,
   fun W _ => nlen_any W,
   fun W _ => (nsizes_any W).mono fun e W' h => ⟨by rw [h.1, szL_congr (f := fun _ => 0) (g := cntS []) (fun _ _ => rfl)], h.2⟩⟩
/-- An index, and the document's, with the same pairs; O: the blocks that are theirs to change. -/
structure Side (w : World) (O : Nat → Prop) (g r : Nat) (v : Value) (l : List (Key × Ent)) : Prop where
  ix : ∃ R T P Rs, IxAt w g R T P Rs ∧ l.Perm (IL T) ∧ (∀ x, R x → O x) ∧ ¬ R r
  rr : RAt w r v l
  so : Srt l
  ro : O r
  lt : ∀ x, O x → x < w.heap.size
  vo : ∀ b, v.ownBlock = some b → ¬ O b
  vl : ∀ b, v.ownBlock = some b → b < w.heap.size
theorem RAt.mod {S : Nat → Prop} {w w' : World} {r : Nat} {v : Value} {l : List (Key × Ent)} (h : RAt w r v l) (m : Mod S w w') (hr : ¬ S r) (hv : ∀ b, v.ownBlock = some b → ¬ S b) : RAt w' r v l := ⟨h.1.mod m hr, h.2.mod m hv⟩
theorem Side.mod {S : Nat → Prop} {w w' : World} {O : Nat → Prop} {g r : Nat} {v : Value} {l : List (Key × Ent)} (h : Side w O g r v l) (m : Mod S w w') (hO : ∀ x, O x → ¬ S x) (hv : ∀ b, v.ownBlock = some b → ¬ S b) : Side w' O g r v l := by
  obtain ⟨R, T, P, Rs, h1, h2, h3, h4⟩ := h.ix
  exact ⟨⟨R, T, P, Rs, h1.mod m (fun x hx => hO x (h3 x hx)), h2, h3, h4⟩, h.rr.mod m (hO r h.ro) hv, h.so, h.ro, fun x hx => Nat.lt_of_lt_of_le (h.lt x hx) m.size, h.vo, fun b e => Nat.lt_of_lt_of_le (h.vl b e) m.size⟩
theorem Side.mod0 {w w' : World} {O : Nat → Prop} {g r : Nat} {v : Value} {l : List (Key × Ent)} (h : Side w O g r v l) (m : Mod no w w') : Side w' O g r v l := h.mod m (fun _ _ c => c) (fun _ _ c => c)
theorem Side.qs {w : World} {O : Nat → Prop} {g r : Nat} {v : Value} {l : List (Key × Ent)} (h : Side w O g r v l) (hl : l.length < 1073741824) : Qs w (.pointer (some ⟨g, 0, none⟩)) l := by
  obtain ⟨R, T, P, Rs, h1, h2, h3, h4⟩ := h.ix
  have hb : ∀ i, i < 16 → (T i).L.length < 1073741824 := fun i hi => by have := h1.len hi; have := h2.length_eq; omega
  have at_ : ∀ W, Mod no w W → IxAt W g R T P Rs := fun W m => h1.mod m fun _ _ c => c
  refine ⟨fun W k m => ?_, fun W k a m => ?_, fun W m => ?_, fun W m => ?_, fun W m => ?_⟩
  · refine (ixget_any (at_ W m) k).mono ?_
    rintro e W' ⟨⟨q, he, hf⟩, hm⟩
    exact ⟨⟨q, he, hf.perm h2.symm⟩, hm⟩
  · refine (ixnext_any (at_ W m) k a).mono ?_
    rintro e W' ⟨⟨q, he, hf⟩, hm⟩
    rw [← best_find h.so h2 hf]
    exact ⟨he, hm⟩
  · refine (ixall_any (at_ W m) hb).mono ?_
    rintro e W' ⟨hL, u, l', he, h5, h6, h7, h8, h9, hm⟩
    have e1 : l = l' := srt_unique h.so (srt_of (nk_perm (h2.trans h8.symm) h.so.nk) h9) (h2.trans h8.symm)
    rw [← e1] at h7
    exact ⟨hL, u, he, h5, h6, h7, hm⟩
  · refine (ixlen_any (at_ W m) hb).mono ?_
    rintro e W' ⟨he, hm⟩
    rw [h2.length_eq]
    exact ⟨he, hm⟩
  · refine (ixsizes_any (at_ W m)).mono ?_
    rintro e W' ⟨he, hm⟩
    rw [szL_congr (f := cntS l) (g := fun i => (T i).L.length) fun i hi => by rw [h1.cnt hi, cntS_perm h2]]
    exact ⟨he, hm⟩
/-- A side that went on from w. -/
def Went (w : World) (O : Nat → Prop) (g r : Nat) (v : Value) (l : List (Key × Ent)) (W : World) : Prop :=
  ∃ O' v' l', Side W O' g r v' l' ∧ (∀ x, O' x → O x ∨ w.heap.size ≤ x) ∧ (∀ b, v'.ownBlock = some b → v' = v ∨ w.heap.size ≤ b) ∧ Mod O w W ∧ l'.length ≤ l.length + 1
theorem went_of {w W1 W3 : World} {O R R' : Nat → Prop} {g r : Nat} {v : Value} {l l' : List (Key × Ent)} {T' : Nat → Tab Key Ent} {P : Nat → Nat} {Rs' : Nat → Nat → Prop} (h : Side w O g r v l) (hR : ∀ x, R x → O x) (hr : ¬ R r)
    (m1 : Mod R w W1) (hx : IxAt W1 g R' T' P Rs') (hR' : ∀ x, R' x → R x ∨ (w.heap.size ≤ x ∧ x < W1.heap.size)) (hp : l'.Perm (IL T')) (hs : Srt l') (hlen : l'.length ≤ l.length + 1)
    (hd : (Mod no W1 W3 ∧ l' = l) ∨ RNew W1 W3 r l') : Went w O g r v l W3 := by
  have hrw := h.lt r h.ro
  have hnr : ¬ R' r := fun c => by
    rcases hR' r c with c | c
    · exact hr c
    · omega
  have hlt : ∀ x, R' x → x < W1.heap.size := fun x hx => by
    rcases hR' x hx with c | c
    · exact Nat.lt_of_lt_of_le (h.lt x (hR x c)) m1.size
    · exact c.2
  have hvo : ∀ b, v.ownBlock = some b → ¬ (R' b ∨ b = r) := fun b e c => by
    have h1 := h.vl b e
    have h2 := h.vo b e
    rcases c with c | c
    · rcases hR' b c with c | c
      · exact h2 (hR b c)
      · omega
    · subst c; exact h2 h.ro
  have hnew : ∀ x, R' x ∨ x = r → O x ∨ w.heap.size ≤ x := fun x c => by
    rcases c with c | c
    · rcases hR' x c with c | c
      · exact .inl (hR x c)
      · exact .inr c.1
    · subst c; exact .inl h.ro
  have m1' : Mod O w W1 := m1.mono fun x _ c => hR x c
  rcases hd with ⟨m2, rfl⟩ | ⟨v', b1, b2, m2⟩
  · refine ⟨fun x => R' x ∨ x = r, v, l', ⟨⟨R', T', P, Rs', hx.mod m2 (fun _ _ c => c), hp, fun x c => .inl c, hnr⟩, (h.rr.mod m1 hr (fun b hb c => h.vo b hb (hR b c))).mod m2 (fun c => c) (fun _ _ c => c), hs, .inr rfl, fun x c => ?_, hvo, fun b e => Nat.lt_of_lt_of_le (h.vl b e) (Nat.le_trans m1.size m2.size)⟩, hnew, fun b _ => .inl rfl, m1'.trans m2 (fun _ _ c => c.elim), hlen⟩
    rcases c with c | c
    · exact Nat.lt_of_lt_of_le (hlt x c) m2.size
    · subst c; exact Nat.lt_of_lt_of_le hrw (Nat.le_trans m1.size m2.size)
  · have hb : ∀ b, v'.ownBlock = some b → W1.heap.size ≤ b ∧ b < W3.heap.size := fun b e => by
      obtain ⟨h5, cur, h6⟩ := b2.own e
      exact ⟨h5, h6.lt⟩
    have h1s := m1.size
    refine ⟨fun x => R' x ∨ x = r, v', l', ⟨⟨R', T', P, Rs', hx.mod m2 (fun x hx c => hnr (by rw [← show x = r from c]; exact hx)), hp, fun x c => .inl c, hnr⟩, ⟨b1, b2.kat⟩, hs, .inr rfl, fun x c => ?_, fun b e c => ?_, fun b e => (hb b e).2⟩, hnew, fun b e => .inr (by have := hb b e; omega), m1'.trans m2 (fun x _ c => by rw [show x = r from c]; exact h.ro), hlen⟩
    · rcases c with c | c
      · exact Nat.lt_of_lt_of_le (hlt x c) m2.size
      · subst c; exact Nat.lt_of_lt_of_le hrw (Nat.le_trans m1.size m2.size)
    · have h5 := hb b e
      rcases c with c | c
      · have := hlt b c; omega
      · omega
/-- Two calls, the index's and then the document's, that answer alike; Fin holds behind both. -/
structure Chg (w : World) (p rr : Value) (non : Bool) (Fin : World → Prop) : Prop where
  put : ∀ W (k : Key) (e : Ent), Mod no w W → Calls Try.prog 20 #[p, .agg k.L.toArray, .agg e.L.toArray] W fun en W1 => ∃ b : Bool, en = .returned (.bool b) ∧ Mod (fun x => x < w.heap.size) W W1 ∧ (non = true → b = false ∧ Fin W1) ∧
    (non = false → ∀ W2, Mod no W1 W2 → Calls Try.prog 67 #[rr, .agg k.L.toArray, .agg e.L.toArray] W2 fun en W3 => en = .returned (.bool b) ∧ Fin W3 ∧ Mod (fun x => x < w.heap.size) W2 W3)
  mark : ∀ W (k : Key) (m : Int), Mod no w W → Calls Try.prog 68 #[p, .agg k.L.toArray, .int .u32 m] W fun en W1 => ∃ b : Bool, en = .returned (.bool b) ∧ Mod (fun x => x < w.heap.size) W W1 ∧
    (∀ W2, Mod no W1 W2 → Calls Try.prog 69 #[rr, .agg k.L.toArray, .int .u32 m] W2 fun en W3 => en = .returned (.bool b) ∧ Fin W3 ∧ Mod (fun x => x < w.heap.size) W2 W3)
  move : ∀ W (k : Key) (s u s' u' : Int), Mod no w W → Calls Try.prog 70 #[p, .agg k.L.toArray, .agg #[.int .i64 s, .int .i64 u], .agg #[.int .i64 s', .int .i64 u']] W fun en W1 => ∃ b : Bool, en = .returned (.bool b) ∧ Mod (fun x => x < w.heap.size) W W1 ∧
    (∀ W2, Mod no W1 W2 → Calls Try.prog 71 #[rr, .agg k.L.toArray, .agg #[.int .i64 s, .int .i64 u], .agg #[.int .i64 s', .int .i64 u']] W2 fun en W3 => en = .returned (.bool b) ∧ Fin W3 ∧ Mod (fun x => x < w.heap.size) W2 W3)
  del : ∀ W (k : Key), Mod no w W → Calls Try.prog 24 #[p, .agg k.L.toArray] W fun en W1 => ∃ q, en = .returned (gotV q) ∧ Mod (fun x => x < w.heap.size) W W1 ∧
    (∀ W2, Mod no W1 W2 → Calls Try.prog 72 #[rr, .agg k.L.toArray] W2 fun en W3 => en = .returned (gotV q) ∧ Fin W3 ∧ Mod (fun x => x < w.heap.size) W2 W3)
  fin : ∀ W, Mod no w W → Fin W
  fin' : ∀ W W', Fin W → Mod no W W' → Fin W'
theorem less_perm' {l l' : List (Key × Ent)} (p : l.Perm l') (k : Key) : (less l k).Perm (less l' k) := p.filter _
theorem found_nil {k : Key} {q : Option Ent} (h : TB.Found [] k q) : q = none := by
  cases q with
  | none => rfl
  | some v => exact absurd ((h v).1 rfl) (by simp)
theorem at_nil {k : Key} {q : Option Nat} (h : At [] k q) : q = none := by
  cases q with
  | none => rfl
  | some v => obtain ⟨x, h1, _⟩ := h; cases h1
theorem chg_nil {w : World} {r : Nat} {v : Value} (h : RAt w r v []) : Chg w (.pointer none) (.pointer (some ⟨r, 0, none⟩)) true (Mod no w) := by
  have hm : ∀ {W W'}, Mod no W W' → Mod (fun x => x < w.heap.size) W W' := fun m => m.mono fun _ _ c => c.elim
  have hr : ∀ {W}, Mod no w W → RAt W r v [] := fun m => h.mod m (fun c => c) fun _ _ c => c
  refine ⟨fun W k e m => ?_, fun W k e m => ?_, fun W k s u s' u' m => ?_, fun W k m => ?_, fun W m => m, fun W W' m m' => m.and_then m'⟩
  · refine (nput_any W k e).mono ?_
    rintro en W1 ⟨rfl, m1⟩
    exact ⟨false, rfl, hm m1, fun _ => ⟨rfl, m.and_then m1⟩, fun c => by cases c⟩
  · refine (nmark_any W k e).mono ?_
    rintro en W1 ⟨rfl, m1⟩
    refine ⟨false, rfl, hm m1, fun W2 m2 => ?_⟩
    refine (rmark_any (hr ((m.and_then m1).and_then m2)) List.nodup_nil (by decide) k e).mono ?_
    rintro en W3 ⟨q, hq, h3⟩
    rw [found_nil hq] at h3
    exact ⟨h3.1, ((m.and_then m1).and_then m2).and_then h3.2, hm h3.2⟩
  · refine (nmove_any W k s u s' u').mono ?_
    rintro en W1 ⟨rfl, m1⟩
    refine ⟨false, rfl, hm m1, fun W2 m2 => ?_⟩
    refine (rmove_any (hr ((m.and_then m1).and_then m2)) List.nodup_nil (by decide) k s u s' u').mono ?_
    rintro en W3 ⟨q, hq, h3⟩
    rw [found_nil hq] at h3
    exact ⟨h3.1, ((m.and_then m1).and_then m2).and_then h3.2, hm h3.2⟩
  · refine (ndel_any W k).mono ?_
    rintro en W1 ⟨rfl, m1⟩
    refine ⟨none, rfl, hm m1, fun W2 m2 => ?_⟩
    refine (rdel_any (hr ((m.and_then m1).and_then m2)) List.nodup_nil (by decide) k).mono ?_
    rintro en W3 ⟨q, h3, hq, h4, _⟩
    have := found_nil hq
    subst this
    exact ⟨h3, ((m.and_then m1).and_then m2).and_then (h4 rfl), hm (h4 rfl)⟩
theorem Went.mod {w W W' : World} {O : Nat → Prop} {g r : Nat} {v : Value} {l : List (Key × Ent)} (h : Went w O g r v l W) (m : Mod no W W') : Went w O g r v l W' := by
  obtain ⟨O', v', l', h1, h2, h3, h4, h5⟩ := h
  exact ⟨O', v', l', h1.mod0 m, h2, h3, h4.trans m (fun _ _ c => c.elim), h5⟩
theorem Went.before {w W W' : World} {O : Nat → Prop} {g r : Nat} {v : Value} {l : List (Key × Ent)} (h : Went W O g r v l W') (m : Mod no w W) : Went w O g r v l W' := by
  obtain ⟨O', v', l', h1, h2, h3, h4, h5⟩ := h
  have := m.size
  exact ⟨O', v', l', h1, fun x c => (h2 x c).imp_right (Nat.le_trans this), fun b c => (h3 b c).imp_right (Nat.le_trans this), (m.mono (fun _ _ c => c.elim)).and_then h4, h5⟩
theorem Went.self {w W : World} {O : Nat → Prop} {g r : Nat} {v : Value} {l : List (Key × Ent)} (h : Side w O g r v l) (m : Mod no w W) : Went w O g r v l W :=
  ⟨O, v, l, h.mod0 m, fun x c => .inl c, fun b _ => .inl rfl, m.mono fun _ _ c => c.elim, by omega⟩
theorem turned_of {W1 : World} {r : Nat} {l : List (Key × Ent)} {T T' : Nat → Tab Key Ent} {k : Key} {f : Ent → Option Ent} {en : Ending} {q : Option Ent} {B : World → Prop} {Fin : World → Prop} {C : World → (Ending → World → Prop) → Prop}
    (hn : NK l) (hq : TB.Found (IL T) k q) (h2 : l.Perm (IL T))
    (hm : match (q.bind f : Option Ent) with
      | none => en = .returned (.bool false) ∧ (IL T').Perm (IL T)
      | some v' => en = .returned (.bool true) ∧ (IL T').Perm ((k, v') :: less (IL T) k))
    {B2 : World → World → Prop} (hold : B W1) (hb2 : ∀ W2 W3, Mod no W2 W3 ∨ Mod (Mem.one r) W2 W3 → B2 W2 W3) (hc : ∀ W2, Mod no W1 W2 → C W2 fun en W3 => RTurned W2 W3 r l k f en) (hmono : ∀ W (Q Q' : Ending → World → Prop), C W Q → (∀ e w, Q e w → Q' e w) → C W Q')
    (hf : ∀ l' W3, l'.Perm (IL T') → (Srt l → Srt l') → l'.length = l.length → ((Mod no W1 W3 ∧ l' = l) ∨ RNew W1 W3 r l') → Fin W3) :
    ∃ b : Bool, en = .returned (.bool b) ∧ B W1 ∧ ∀ W2, Mod no W1 W2 → C W2 fun en W3 => en = .returned (.bool b) ∧ Fin W3 ∧ B2 W2 W3 := by
  have hql : TB.Found l k q := hq.perm h2.symm
  cases hb : (q.bind f : Option Ent) with
  | none =>
    rw [hb] at hm
    refine ⟨false, hm.1, hold, fun W2 m2 => hmono _ _ _ (hc W2 m2) ?_⟩
    rintro e W3 ⟨q', hq', h5⟩
    rw [hq'.same hql, hb] at h5
    exact ⟨h5.1, hf l W3 (h2.trans hm.2.symm) (fun s => s) rfl (.inl ⟨m2.and_then h5.2, rfl⟩), hb2 _ _ (.inl h5.2)⟩
  | some e' =>
    rw [hb] at hm
    refine ⟨true, hm.1, hold, fun W2 m2 => hmono _ _ _ (hc W2 m2) ?_⟩
    rintro e W3 ⟨q', hq', h5⟩
    rw [hq'.same hql, hb] at h5
    have hin : ∃ v0, (k, v0) ∈ l := by
      cases q with
      | none => cases hb
      | some v0 => exact ⟨v0, (hql v0).1 rfl⟩
    obtain ⟨v0, hin⟩ := hin
    obtain ⟨h5a, v', hn1, hn2, hn3⟩ := h5
    have h5b : RNew W2 W3 r (turn l k e') := ⟨v', hn1, hn2, hn3⟩
    exact ⟨h5a, hf (turn l k e') W3 ((turn_perm hn hin).trans (((less_perm' h2 k).cons _).trans hm.2.symm)) (fun s => turn_srt s k e') (turn_len _ _ _) (.inr (h5b.before m2)), hb2 _ _ (.inr hn3)⟩
theorem Side.chg {w : World} {O : Nat → Prop} {g r : Nat} {v : Value} {l : List (Key × Ent)} (h : Side w O g r v l) (hl : l.length ≤ 1048576) : Chg w (.pointer (some ⟨g, 0, none⟩)) (.pointer (some ⟨r, 0, none⟩)) false (Went w O g r v l) := by
  have hext : ∀ {W W1 : World} {R : Nat → Prop} (x : Nat), ext R W W1 x → R x ∨ (W.heap.size ≤ x ∧ x < W1.heap.size) := fun x c => c
  have hold : ∀ {W W1 : World} {R : Nat → Prop}, (∀ x, R x → O x) → Mod R W W1 → Mod (fun x => x < w.heap.size) W W1 := fun hR m => m.mono fun x _ c => h.lt x (hR x c)
  have hno : ∀ {W W1 : World}, Mod no W W1 → Mod (fun x => x < w.heap.size) W W1 := fun m => m.mono fun _ _ c => c.elim
  have hone : ∀ {W W1 : World}, Mod (Mem.one r) W W1 → Mod (fun x => x < w.heap.size) W W1 := fun m => m.mono fun x _ c => by rw [show x = r from c]; exact h.lt r h.ro
  have hb2 : ∀ W2 W3, Mod no W2 W3 ∨ Mod (Mem.one r) W2 W3 → Mod (fun x => x < w.heap.size) W2 W3 := fun W2 W3 c => by exact c.elim hno hone
  refine ⟨fun W k e m => ?_, fun W k e m => ?_, fun W k s u s' u' m => ?_, fun W k m => ?_, fun W m => Went.self h m, fun W W' f m => f.mod m⟩
  all_goals
    have hW := h.mod0 m
    obtain ⟨R, T, P, Rs, h1, h2, h3, h4⟩ := hW.ix
    have hb : ∀ i, i < 16 → (T i).L.length < 1073741824 := fun i hi => by have := h1.len hi; have := h2.length_eq; omega
  · refine (ixput_any h1 hb k e).mono ?_
    rintro en W1 ⟨q, rfl, hq, ⟨T', hp, Rs', hx⟩, m1⟩
    refine ⟨!q.isSome, rfl, hold h3 m1, (fun c => by cases c), fun _ W2 m2 => ?_⟩
    have hr2 : RAt W2 r v l := (hW.rr.mod m1 h4 (fun b e c => hW.vo b e (h3 b c))).mod m2 (fun c => c) (fun _ _ c => c)
    refine (rput_any hr2 hl k e).mono ?_
    rintro en W3 ⟨o, ho, rfl, h5, h6⟩
    obtain ⟨q', hq', hm'⟩ := found_at h.so.nk ho
    have e1 : q' = q := hq'.same (hq.perm h2.symm)
    subst e1
    cases o with
    | none =>
      have hm' : q' = none := hm'
      subst hm'
      have hns := (h6 rfl).before m2
      obtain ⟨v', hn1, hn2, hn3⟩ := h6 rfl
      refine ⟨rfl, (went_of hW h3 h4 m1 hx hext ((ins_perm _ _).trans ((h2.cons _).trans hp.symm)) (ins_srt h.so ho) (by rw [ins_len]; omega) (.inr hns)).before m, hone hn3⟩
    | some i =>
      obtain ⟨e', rfl, _⟩ := hm'
      exact ⟨rfl, (went_of hW h3 h4 m1 hx hext (h2.trans hp.symm) h.so (by omega) (.inl ⟨m2.and_then (h5 rfl), rfl⟩)).before m, hno (h5 rfl)⟩
  · refine (ixmark_any h1 hb k e).mono ?_
    rintro en W1 ⟨q, hq, T', Rs', hx, m1, hm⟩
    have hr2 : ∀ W2, Mod no W1 W2 → RAt W2 r v l := fun W2 m2 => (hW.rr.mod m1 h4 (fun b e c => hW.vo b e (h3 b c))).mod m2 (fun c => c) (fun _ _ c => c)
    refine turned_of h.so.nk hq h2 hm (B := fun W1 => Mod (fun x => x < w.heap.size) W W1) (C := fun W2 Q => Calls Try.prog 69 #[.pointer (some ⟨r, 0, none⟩), .agg k.L.toArray, .int .u32 e] W2 Q) (B2 := fun W2 W3 => Mod (fun x => x < w.heap.size) W2 W3) (hold h3 m1) hb2 (fun W2 m2 => (rmark_any (hr2 W2 m2) h.so.nk (by omega) k e)) (fun _ _ _ a b => a.mono b) fun l' W3 hp hs hlen hd => ?_
    exact (went_of hW h3 h4 m1 hx hext hp (hs h.so) (by omega) hd).before m
  · refine (ixmove_any h1 hb k s u s' u').mono ?_
    rintro en W1 ⟨q, hq, T', Rs', hx, m1, hm⟩
    have hr2 : ∀ W2, Mod no W1 W2 → RAt W2 r v l := fun W2 m2 => (hW.rr.mod m1 h4 (fun b e c => hW.vo b e (h3 b c))).mod m2 (fun c => c) (fun _ _ c => c)
    refine turned_of h.so.nk hq h2 hm (B := fun W1 => Mod (fun x => x < w.heap.size) W W1) (C := fun W2 Q => Calls Try.prog 71 #[.pointer (some ⟨r, 0, none⟩), .agg k.L.toArray, .agg #[.int .i64 s, .int .i64 u], .agg #[.int .i64 s', .int .i64 u']] W2 Q) (B2 := fun W2 W3 => Mod (fun x => x < w.heap.size) W2 W3) (hold h3 m1) hb2 (fun W2 m2 => (rmove_any (hr2 W2 m2) h.so.nk (by omega) k s u s' u')) (fun _ _ _ a b => a.mono b) fun l' W3 hp hs hlen hd => ?_
    exact (went_of hW h3 h4 m1 hx hext hp (hs h.so) (by omega) hd).before m
  · refine (ixdel_any h1 k).mono ?_
    rintro en W1 ⟨⟨q, rfl, hq⟩, ⟨T', Rs', hp, hx⟩, m1⟩
    refine ⟨q, rfl, hold h3 m1, fun W2 m2 => ?_⟩
    have hr2 : RAt W2 r v l := (hW.rr.mod m1 h4 (fun b e c => hW.vo b e (h3 b c))).mod m2 (fun c => c) (fun _ _ c => c)
    refine (rdel_any hr2 h.so.nk (by omega) k).mono ?_
    rintro en W3 ⟨q', rfl, hq', h5, h6⟩
    have e1 : q' = q := hq'.same (hq.perm h2.symm)
    subst e1
    refine ⟨rfl, (went_of (l' := less l k) hW h3 h4 m1 hx hext ((less_perm' h2 k).trans hp.symm) (less_srt h.so k) (by have := List.length_filter_le (fun x : Key × Ent => decide (x.1 ≠ k)) l; show (less l k).length ≤ _; unfold less; omega) ?_).before m, ?_⟩
    · cases q' with
      | none => exact .inl ⟨m2.and_then (h5 rfl), less_no fun e c => by have := (hq' e).2 c; cases this⟩
      | some e => exact .inr ((h6 (by simp)).before m2)
    · cases q' with
      | none => exact hno (h5 rfl)
      | some e => obtain ⟨v', hn1, hn2, hn3⟩ := h6 (by simp); exact hone hn3
end Go.Proofs.Ytknbehjhaaidoaa.IX

