/- The arena's methods on a nil arena, or on a zero one (printed by arenanil.py). -/
import Derived.Test.YtkfcpnijhgaejaaChecked
import Derived.Test.YtkfcpnijhgaejaaMem
import Derived.WalkKit
import Derived.WalkSpells
import Derived.Lib.Hide
import Derived.Lib.SliceRun
namespace Go.Proofs.Ytkfcpnijhgaejaa.AN
open Go.RowKit Mem
set_option linter.unusedVariables false
set_option linter.unusedSimpArgs false

/-- A nil arena, or a zero one. -/
def Az (w : World) (v : Value) : Prop := v = .pointer none ∨ ∃ z, v = .pointer (some ⟨z, 0, none⟩) ∧ Blk w z 29 #[.int .i64 0, .int .i64 0, .slice none 0 0, .map none, .map none]
theorem Az.mod {S : Nat → Prop} {w w' : World} {v : Value} (h : Az w v) (hm : Mod S w w') (hn : ∀ z, v = .pointer (some ⟨z, 0, none⟩) → ¬ S z) : Az w' v := by
  rcases h with h | ⟨z, e, hb⟩
  · exact .inl h
  · exact .inr ⟨z, e, hb.mod hm (hn z e)⟩
theorem Az.mod_no {w w' : World} {v : Value} (h : Az w v) (hm : Mod no w w') : Az w' v := h.mod hm fun _ _ c => c
set_option maxRecDepth 100000 in
set_option maxHeartbeats 1000000 in
theorem there_n {w : World} {v : Value} (h : Az w v) : Calls Try.prog 27 #[v] w fun e w' => e = .returned (.bool false) ∧ w = w' := by
  rcases h with rfl | ⟨z, rfl, hb⟩
  · go_enter Try.func27, Try.ntmps27
    go_wp2_with fail
    go_ret
    exact ⟨rfl, rfl⟩
  · have c2 := hb.cell 2
    simp at c2
    clear hb
    go_enter Try.func27, Try.ntmps27
    go_wp2_with fail
    go_ret
    exact ⟨rfl, rfl⟩
set_option maxRecDepth 100000 in
set_option maxHeartbeats 1000000 in
theorem write_n {w : World} {v : Value} {p q : Int} {x : Value} (h : Az w v) : Calls Try.prog 8 #[v, .agg #[.int .i64 p, .int .i64 q], x] w fun e w' => e = .returned (.int .i64 1) ∧ Mod no w w' := by
  have HA := Lib.hid h
  clear h
  go_enter Try.func8, Try.ntmps8
  go_wp2_with (go_at_call 27; refine (there_n (HA.out.mod_no (by first | exact Mod.refl _ _ | exact (Mod.refl _ _).alloc _ | exact ((Mod.refl _ _).alloc _).alloc _ | exact (((Mod.refl _ _).alloc _).alloc _).alloc _))).mono ?_; rintro e w' ⟨rfl, rfl⟩)
  go_ret
  exact ⟨rfl, (by first | exact Mod.refl _ _ | exact (Mod.refl _ _).alloc _ | exact ((Mod.refl _ _).alloc _).alloc _ | exact (((Mod.refl _ _).alloc _).alloc _).alloc _)⟩
set_option maxRecDepth 100000 in
set_option maxHeartbeats 1000000 in
theorem settle_n {w : World} {v : Value} {p q n : Int} {b : Bool} (h : Az w v) : Calls Try.prog 9 #[v, .agg #[.int .i64 p, .int .i64 q], .int .i64 n, .bool b] w fun e w' => e = .returned (.int .i64 1) ∧ Mod no w w' := by
  have HA := Lib.hid h
  clear h
  go_enter Try.func9, Try.ntmps9
  go_wp2_with (go_at_call 27; refine (there_n (HA.out.mod_no (by first | exact Mod.refl _ _ | exact (Mod.refl _ _).alloc _ | exact ((Mod.refl _ _).alloc _).alloc _ | exact (((Mod.refl _ _).alloc _).alloc _).alloc _))).mono ?_; rintro e w' ⟨rfl, rfl⟩)
  go_ret
  exact ⟨rfl, (by first | exact Mod.refl _ _ | exact (Mod.refl _ _).alloc _ | exact ((Mod.refl _ _).alloc _).alloc _ | exact (((Mod.refl _ _).alloc _).alloc _).alloc _)⟩
set_option maxRecDepth 100000 in
set_option maxHeartbeats 1000000 in
theorem dead_n {w : World} {v : Value} {p q n : Int} (h : Az w v) : Calls Try.prog 10 #[v, .agg #[.int .i64 p, .int .i64 q], .int .i64 n] w fun e w' => e = .returned (.int .i64 1) ∧ Mod no w w' := by
  have HA := Lib.hid h
  clear h
  go_enter Try.func10, Try.ntmps10
  go_wp2_with (go_at_call 27; refine (there_n (HA.out.mod_no (by first | exact Mod.refl _ _ | exact (Mod.refl _ _).alloc _ | exact ((Mod.refl _ _).alloc _).alloc _ | exact (((Mod.refl _ _).alloc _).alloc _).alloc _))).mono ?_; rintro e w' ⟨rfl, rfl⟩)
  go_ret
  exact ⟨rfl, (by first | exact Mod.refl _ _ | exact (Mod.refl _ _).alloc _ | exact ((Mod.refl _ _).alloc _).alloc _ | exact (((Mod.refl _ _).alloc _).alloc _).alloc _)⟩
set_option maxRecDepth 100000 in
set_option maxHeartbeats 1000000 in
theorem hold_n {w : World} {v : Value} {n : Int} (h : Az w v) : Calls Try.prog 11 #[v, .int .i64 n] w fun e w' => e = .returned (.int .i64 1) ∧ Mod no w w' := by
  have HA := Lib.hid h
  clear h
  go_enter Try.func11, Try.ntmps11
  go_wp2_with (go_at_call 27; refine (there_n (HA.out.mod_no (by first | exact Mod.refl _ _ | exact (Mod.refl _ _).alloc _ | exact ((Mod.refl _ _).alloc _).alloc _ | exact (((Mod.refl _ _).alloc _).alloc _).alloc _))).mono ?_; rintro e w' ⟨rfl, rfl⟩)
  go_ret
  exact ⟨rfl, (by first | exact Mod.refl _ _ | exact (Mod.refl _ _).alloc _ | exact ((Mod.refl _ _).alloc _).alloc _ | exact (((Mod.refl _ _).alloc _).alloc _).alloc _)⟩
set_option maxRecDepth 100000 in
set_option maxHeartbeats 1000000 in
theorem let_n {w : World} {v : Value} {n : Int} (h : Az w v) : Calls Try.prog 12 #[v, .int .i64 n] w fun e w' => e = .returned (.int .i64 1) ∧ Mod no w w' := by
  have HA := Lib.hid h
  clear h
  go_enter Try.func12, Try.ntmps12
  go_wp2_with (go_at_call 27; refine (there_n (HA.out.mod_no (by first | exact Mod.refl _ _ | exact (Mod.refl _ _).alloc _ | exact ((Mod.refl _ _).alloc _).alloc _ | exact (((Mod.refl _ _).alloc _).alloc _).alloc _))).mono ?_; rintro e w' ⟨rfl, rfl⟩)
  go_ret
  exact ⟨rfl, (by first | exact Mod.refl _ _ | exact (Mod.refl _ _).alloc _ | exact ((Mod.refl _ _).alloc _).alloc _ | exact (((Mod.refl _ _).alloc _).alloc _).alloc _)⟩
set_option maxRecDepth 100000 in
set_option maxHeartbeats 1000000 in
theorem free_n {w : World} {v : Value} {n : Int} (h : Az w v) : Calls Try.prog 17 #[v, .int .i64 n] w fun e w' => e = .returned (.int .i64 1) ∧ Mod no w w' := by
  have HA := Lib.hid h
  clear h
  go_enter Try.func17, Try.ntmps17
  go_wp2_with (go_at_call 27; refine (there_n (HA.out.mod_no (by first | exact Mod.refl _ _ | exact (Mod.refl _ _).alloc _ | exact ((Mod.refl _ _).alloc _).alloc _ | exact (((Mod.refl _ _).alloc _).alloc _).alloc _))).mono ?_; rintro e w' ⟨rfl, rfl⟩)
  go_ret
  exact ⟨rfl, (by first | exact Mod.refl _ _ | exact (Mod.refl _ _).alloc _ | exact ((Mod.refl _ _).alloc _).alloc _ | exact (((Mod.refl _ _).alloc _).alloc _).alloc _)⟩
set_option maxRecDepth 100000 in
set_option maxHeartbeats 1000000 in
theorem read_n {w : World} {v : Value} {p q n : Int} (h : Az w v) : Calls Try.prog 13 #[v, .agg #[.int .i64 p, .int .i64 q], .int .i64 n] w fun e w' => e = .returned (.tuple #[.slice none 0 0, .int .i64 1]) ∧ Mod no w w' := by
  have HA := Lib.hid h
  clear h
  go_enter Try.func13, Try.ntmps13
  go_wp2_with (go_at_call 27; refine (there_n (HA.out.mod_no (by first | exact Mod.refl _ _ | exact (Mod.refl _ _).alloc _ | exact ((Mod.refl _ _).alloc _).alloc _ | exact (((Mod.refl _ _).alloc _).alloc _).alloc _))).mono ?_; rintro e w' ⟨rfl, rfl⟩)
  go_ret2
  exact ⟨rfl, (by first | exact Mod.refl _ _ | exact (Mod.refl _ _).alloc _ | exact ((Mod.refl _ _).alloc _).alloc _ | exact (((Mod.refl _ _).alloc _).alloc _).alloc _)⟩
set_option maxRecDepth 100000 in
set_option maxHeartbeats 1000000 in
theorem seal_n {w : World} {v : Value} (h : Az w v) : Calls Try.prog 14 #[v] w fun e w' => e = .returned (.tuple #[]) ∧ Mod no w w' := by
  have HA := Lib.hid h
  clear h
  go_enter Try.func14, Try.ntmps14
  go_wp2_with (go_at_call 27; refine (there_n (HA.out.mod_no (by first | exact Mod.refl _ _ | exact (Mod.refl _ _).alloc _ | exact ((Mod.refl _ _).alloc _).alloc _ | exact (((Mod.refl _ _).alloc _).alloc _).alloc _))).mono ?_; rintro e w' ⟨rfl, rfl⟩)
  exact bodyPost_ret (v := .tuple #[]) (by simp [results, Try.results14, go_sem]) rfl ⟨rfl, (by first | exact Mod.refl _ _ | exact (Mod.refl _ _).alloc _ | exact ((Mod.refl _ _).alloc _).alloc _ | exact (((Mod.refl _ _).alloc _).alloc _).alloc _)⟩
set_option maxRecDepth 100000 in
set_option maxHeartbeats 1000000 in
theorem finish_n {w : World} {v : Value} (h : Az w v) : Calls Try.prog 18 #[v] w fun e w' => e = .returned (.tuple #[]) ∧ Mod no w w' := by
  have HA := Lib.hid h
  clear h
  go_enter Try.func18, Try.ntmps18
  go_wp2_with (go_at_call 27; refine (there_n (HA.out.mod_no (by first | exact Mod.refl _ _ | exact (Mod.refl _ _).alloc _ | exact ((Mod.refl _ _).alloc _).alloc _ | exact (((Mod.refl _ _).alloc _).alloc _).alloc _))).mono ?_; rintro e w' ⟨rfl, rfl⟩)
  exact bodyPost_ret (v := .tuple #[]) (by simp [results, Try.results18, go_sem]) rfl ⟨rfl, (by first | exact Mod.refl _ _ | exact (Mod.refl _ _).alloc _ | exact ((Mod.refl _ _).alloc _).alloc _ | exact (((Mod.refl _ _).alloc _).alloc _).alloc _)⟩
set_option maxRecDepth 100000 in
set_option maxHeartbeats 1000000 in
theorem victims_n {w : World} {v : Value} (h : Az w v) : Calls Try.prog 16 #[v] w fun e w' => e = .returned (.slice none 0 0) ∧ Mod no w w' := by
  rcases h with rfl | ⟨z, rfl, hb⟩
  · have HA := Lib.hid (show Az w (.pointer none) from .inl rfl)
    skip
    go_enter Try.func16, Try.ntmps16
    go_wp2_with (go_at_call 27; refine (there_n (HA.out.mod_no (by first | exact Mod.refl _ _ | exact (Mod.refl _ _).alloc _ | exact ((Mod.refl _ _).alloc _).alloc _ | exact (((Mod.refl _ _).alloc _).alloc _).alloc _))).mono ?_; rintro e w' ⟨rfl, rfl⟩)
    go_ret
    exact ⟨rfl, (by first | exact Mod.refl _ _ | exact (Mod.refl _ _).alloc _ | exact ((Mod.refl _ _).alloc _).alloc _ | exact (((Mod.refl _ _).alloc _).alloc _).alloc _)⟩
  · have HA := Lib.hid (show Az w (.pointer (some ⟨z, 0, none⟩)) from .inr ⟨z, rfl, hb⟩)
    clear hb
    go_enter Try.func16, Try.ntmps16
    go_wp2_with (go_at_call 27; refine (there_n (HA.out.mod_no (by first | exact Mod.refl _ _ | exact (Mod.refl _ _).alloc _ | exact ((Mod.refl _ _).alloc _).alloc _ | exact (((Mod.refl _ _).alloc _).alloc _).alloc _))).mono ?_; rintro e w' ⟨rfl, rfl⟩)
    go_ret
    exact ⟨rfl, (by first | exact Mod.refl _ _ | exact (Mod.refl _ _).alloc _ | exact ((Mod.refl _ _).alloc _).alloc _ | exact (((Mod.refl _ _).alloc _).alloc _).alloc _)⟩
set_option maxRecDepth 100000 in
set_option maxHeartbeats 1000000 in
theorem segments_n {w : World} {v : Value} (h : Az w v) : Calls Try.prog 20 #[v] w fun e w' => e = .returned (.slice none 0 0) ∧ Mod no w w' := by
  have HA := Lib.hid h
  clear h
  go_enter Try.func20, Try.ntmps20
  go_wp2_with (go_at_call 27; refine (there_n (HA.out.mod_no (by first | exact Mod.refl _ _ | exact (Mod.refl _ _).alloc _ | exact ((Mod.refl _ _).alloc _).alloc _ | exact (((Mod.refl _ _).alloc _).alloc _).alloc _))).mono ?_; rintro e w' ⟨rfl, rfl⟩)
  go_ret
  exact ⟨rfl, (by first | exact Mod.refl _ _ | exact (Mod.refl _ _).alloc _ | exact ((Mod.refl _ _).alloc _).alloc _ | exact (((Mod.refl _ _).alloc _).alloc _).alloc _)⟩
set_option maxRecDepth 100000 in
set_option maxHeartbeats 1000000 in
theorem live_n {w : World} {v : Value} (h : Az w v) : Calls Try.prog 23 #[v] w fun e w' => e = .returned (.slice none 0 0) ∧ Mod no w w' := by
  have HA := Lib.hid h
  clear h
  go_enter Try.func23, Try.ntmps23
  go_wp2_with (go_at_call 27; refine (there_n (HA.out.mod_no (by first | exact Mod.refl _ _ | exact (Mod.refl _ _).alloc _ | exact ((Mod.refl _ _).alloc _).alloc _ | exact (((Mod.refl _ _).alloc _).alloc _).alloc _))).mono ?_; rintro e w' ⟨rfl, rfl⟩)
  go_ret
  exact ⟨rfl, (by first | exact Mod.refl _ _ | exact (Mod.refl _ _).alloc _ | exact ((Mod.refl _ _).alloc _).alloc _ | exact (((Mod.refl _ _).alloc _).alloc _).alloc _)⟩
set_option maxRecDepth 100000 in
set_option maxHeartbeats 1000000 in
theorem pending_n {w : World} {v : Value} (h : Az w v) : Calls Try.prog 24 #[v] w fun e w' => e = .returned (.slice none 0 0) ∧ Mod no w w' := by
  have HA := Lib.hid h
  clear h
  go_enter Try.func24, Try.ntmps24
  go_wp2_with (go_at_call 27; refine (there_n (HA.out.mod_no (by first | exact Mod.refl _ _ | exact (Mod.refl _ _).alloc _ | exact ((Mod.refl _ _).alloc _).alloc _ | exact (((Mod.refl _ _).alloc _).alloc _).alloc _))).mono ?_; rintro e w' ⟨rfl, rfl⟩)
  go_ret
  exact ⟨rfl, (by first | exact Mod.refl _ _ | exact (Mod.refl _ _).alloc _ | exact ((Mod.refl _ _).alloc _).alloc _ | exact (((Mod.refl _ _).alloc _).alloc _).alloc _)⟩
set_option maxRecDepth 100000 in
set_option maxHeartbeats 1000000 in
theorem bytes_n {w : World} {v : Value} {n : Int} (h : Az w v) : Calls Try.prog 21 #[v, .int .i64 n] w fun e w' => e = .returned (.slice none 0 0) ∧ Mod no w w' := by
  have HA := Lib.hid h
  clear h
  go_enter Try.func21, Try.ntmps21
  go_wp2_with (go_at_call 27; refine (there_n (HA.out.mod_no (by first | exact Mod.refl _ _ | exact (Mod.refl _ _).alloc _ | exact ((Mod.refl _ _).alloc _).alloc _ | exact (((Mod.refl _ _).alloc _).alloc _).alloc _))).mono ?_; rintro e w' ⟨rfl, rfl⟩)
  go_ret
  exact ⟨rfl, (by first | exact Mod.refl _ _ | exact (Mod.refl _ _).alloc _ | exact ((Mod.refl _ _).alloc _).alloc _ | exact (((Mod.refl _ _).alloc _).alloc _).alloc _)⟩
set_option maxRecDepth 100000 in
set_option maxHeartbeats 1000000 in
theorem reserve_n {w : World} {v : Value} {n : Int} (h : Az w v) : Calls Try.prog 5 #[v, .int .i64 n] w fun e w' => e = .returned (.tuple #[.agg #[.int .i64 0, .int .i64 0], .int .i64 1]) ∧ Mod no w w' := by
  rcases h with rfl | ⟨z, rfl, hb⟩
  · have HA := Lib.hid (show Az w (.pointer none) from .inl rfl)
    skip
    go_enter Try.func5, Try.ntmps5
    go_wp2_with (go_at_call 27; refine (there_n (HA.out.mod_no (by first | exact Mod.refl _ _ | exact (Mod.refl _ _).alloc _ | exact ((Mod.refl _ _).alloc _).alloc _ | exact (((Mod.refl _ _).alloc _).alloc _).alloc _))).mono ?_; rintro e w' ⟨rfl, rfl⟩)
    exact bodyPost_ret (v := .tuple #[.agg #[.int .i64 0, .int .i64 0], .int .i64 1]) (by simp [results, Try.results5, go_sem]) rfl ⟨rfl, (by first | exact Mod.refl _ _ | exact (Mod.refl _ _).alloc _ | exact ((Mod.refl _ _).alloc _).alloc _ | exact (((Mod.refl _ _).alloc _).alloc _).alloc _)⟩
  · have HA := Lib.hid (show Az w (.pointer (some ⟨z, 0, none⟩)) from .inr ⟨z, rfl, hb⟩)
    clear hb
    go_enter Try.func5, Try.ntmps5
    go_wp2_with (go_at_call 27; refine (there_n (HA.out.mod_no (by first | exact Mod.refl _ _ | exact (Mod.refl _ _).alloc _ | exact ((Mod.refl _ _).alloc _).alloc _ | exact (((Mod.refl _ _).alloc _).alloc _).alloc _))).mono ?_; rintro e w' ⟨rfl, rfl⟩)
    exact bodyPost_ret (v := .tuple #[.agg #[.int .i64 0, .int .i64 0], .int .i64 1]) (by simp [results, Try.results5, go_sem]) rfl ⟨rfl, (by first | exact Mod.refl _ _ | exact (Mod.refl _ _).alloc _ | exact ((Mod.refl _ _).alloc _).alloc _ | exact (((Mod.refl _ _).alloc _).alloc _).alloc _)⟩
set_option maxRecDepth 100000 in
set_option maxHeartbeats 1000000 in
theorem reservedest_n {w : World} {v : Value} {n : Int} (h : Az w v) : Calls Try.prog 7 #[v, .int .i64 n] w fun e w' => e = .returned (.tuple #[.agg #[.int .i64 0, .int .i64 0], .int .i64 1]) ∧ Mod no w w' := by
  rcases h with rfl | ⟨z, rfl, hb⟩
  · have HA := Lib.hid (show Az w (.pointer none) from .inl rfl)
    skip
    go_enter Try.func7, Try.ntmps7
    go_wp2_with (go_at_call 27; refine (there_n (HA.out.mod_no (by first | exact Mod.refl _ _ | exact (Mod.refl _ _).alloc _ | exact ((Mod.refl _ _).alloc _).alloc _ | exact (((Mod.refl _ _).alloc _).alloc _).alloc _))).mono ?_; rintro e w' ⟨rfl, rfl⟩)
    exact bodyPost_ret (v := .tuple #[.agg #[.int .i64 0, .int .i64 0], .int .i64 1]) (by simp [results, Try.results7, go_sem]) rfl ⟨rfl, (by first | exact Mod.refl _ _ | exact (Mod.refl _ _).alloc _ | exact ((Mod.refl _ _).alloc _).alloc _ | exact (((Mod.refl _ _).alloc _).alloc _).alloc _)⟩
  · have HA := Lib.hid (show Az w (.pointer (some ⟨z, 0, none⟩)) from .inr ⟨z, rfl, hb⟩)
    clear hb
    go_enter Try.func7, Try.ntmps7
    go_wp2_with (go_at_call 27; refine (there_n (HA.out.mod_no (by first | exact Mod.refl _ _ | exact (Mod.refl _ _).alloc _ | exact ((Mod.refl _ _).alloc _).alloc _ | exact (((Mod.refl _ _).alloc _).alloc _).alloc _))).mono ?_; rintro e w' ⟨rfl, rfl⟩)
    exact bodyPost_ret (v := .tuple #[.agg #[.int .i64 0, .int .i64 0], .int .i64 1]) (by simp [results, Try.results7, go_sem]) rfl ⟨rfl, (by first | exact Mod.refl _ _ | exact (Mod.refl _ _).alloc _ | exact ((Mod.refl _ _).alloc _).alloc _ | exact (((Mod.refl _ _).alloc _).alloc _).alloc _)⟩
set_option maxRecDepth 100000 in
set_option maxHeartbeats 1000000 in
theorem config_n {w : World} {v : Value} (h : Az w v) : Calls Try.prog 25 #[v] w fun e w' => e = .returned (.agg #[.int .i64 0, .int .i64 0]) ∧ Mod no w w' := by
  have HA := Lib.hid h
  clear h
  go_enter Try.func25, Try.ntmps25
  go_wp2_with (go_at_call 27; refine (there_n (HA.out.mod_no (by first | exact Mod.refl _ _ | exact (Mod.refl _ _).alloc _ | exact ((Mod.refl _ _).alloc _).alloc _ | exact (((Mod.refl _ _).alloc _).alloc _).alloc _))).mono ?_; rintro e w' ⟨rfl, rfl⟩)
  exact bodyPost_ret (v := .agg #[.int .i64 0, .int .i64 0]) (by simp [results, Try.results25, go_sem]) rfl ⟨rfl, (by first | exact Mod.refl _ _ | exact (Mod.refl _ _).alloc _ | exact ((Mod.refl _ _).alloc _).alloc _ | exact (((Mod.refl _ _).alloc _).alloc _).alloc _)⟩
set_option maxRecDepth 100000 in
set_option maxHeartbeats 1000000 in
theorem numbers_0 {w : World} : Calls Try.prog 15 #[.slice none 0 0] w fun e w' => e = .returned (.string ⟨#[]⟩) ∧ w = w' := by
  go_enter Try.func15, Try.ntmps15
  go_wp2_with fail
  go_loopw [3, 4] (fun s i wr => s = .string ⟨#[]⟩ ∧ i = .int .i64 0 ∧ wr = w) (fun _ _ _ => 0)
  case atStart => exact ⟨rfl, rfl, rfl⟩
  case round =>
    obtain ⟨rfl, rfl, rfl⟩ := hrel
    go_wp2_with fail
    go_ret
    exact ⟨rfl, rfl⟩
set_option maxRecDepth 100000 in
set_option maxHeartbeats 1000000 in
theorem segments_0 {w : World} : Calls Try.prog 19 #[.slice none 0 0] w fun e w' => e = .returned (.string ⟨#[]⟩) ∧ w = w' := by
  go_enter Try.func19, Try.ntmps19
  go_wp2_with fail
  go_loopw [3, 4] (fun s i wr => s = .string ⟨#[]⟩ ∧ i = .int .i64 0 ∧ wr = w) (fun _ _ _ => 0)
  case atStart => exact ⟨rfl, rfl, rfl⟩
  case round =>
    obtain ⟨rfl, rfl, rfl⟩ := hrel
    go_wp2_with fail
    go_ret
    exact ⟨rfl, rfl⟩
set_option maxRecDepth 100000 in
set_option maxHeartbeats 1000000 in
theorem rooms_0 {w : World} : Calls Try.prog 22 #[.slice none 0 0] w fun e w' => e = .returned (.string ⟨#[]⟩) ∧ w = w' := by
  go_enter Try.func22, Try.ntmps22
  go_wp2_with fail
  go_loopw [3, 4] (fun s i wr => s = .string ⟨#[]⟩ ∧ i = .int .i64 0 ∧ wr = w) (fun _ _ _ => 0)
  case atStart => exact ⟨rfl, rfl, rfl⟩
  case round =>
    obtain ⟨rfl, rfl, rfl⟩ := hrel
    go_wp2_with fail
    go_ret
    exact ⟨rfl, rfl⟩

end Go.Proofs.Ytkfcpnijhgaejaa.AN
