/- The collector's methods on a nil one, or on a zero one; a collector made (printed by cyclenil.py). -/
import Derived.Test.YtcpflggjolkjgaaGreatDoorMnD
namespace Go.Proofs.YtcpflggjolkjgaaGreatDoor.MN
open Go.RowKit Mem HD
set_option linter.unusedVariables false
set_option linter.unusedSimpArgs false

/-- A nil collector, or a zero one. -/
def Cz (w : World) (v : Value) : Prop := v = .pointer none ∨ ∃ z, v = .pointer (some ⟨z, 0, none⟩) ∧ ∃ cs : Array Value, Blk w z 48 cs ∧ cs[4]? = some (.pointer none)
theorem Cz.mod_no {w w' : World} {v : Value} (h : Cz w v) (hm : Mod no w w') : Cz w' v := by
  rcases h with h | ⟨z, e, cs, hb, hc⟩
  · exact .inl h
  · exact .inr ⟨z, e, cs, hb.mod hm (fun c => c), hc⟩
set_option maxRecDepth 100000 in
set_option maxHeartbeats 1000000 in
theorem there_c {w : World} {v : Value} (h : Cz w v) : Calls Tryz.prog 30 #[v] w fun e w' => e = .returned (.bool false) ∧ w = w' := by
  rcases h with rfl | ⟨z, rfl, cs, hb, hc⟩
  · go_enter Tryz.func30, Tryz.ntmps30
    go_wp2_with fail
    go_ret
    exact ⟨rfl, rfl⟩
  · have c4 := hb.cell 4
    rw [hc] at c4
    clear hb hc
    go_enter Tryz.func30, Tryz.ntmps30
    go_wp2_with fail
    go_ret
    exact ⟨rfl, rfl⟩
set_option maxRecDepth 100000 in
set_option maxHeartbeats 1000000 in
theorem touch_c {w : World} {v : Value} {k : List Value} (h : Cz w v) : Calls Tryz.prog 16 #[v, .agg k.toArray] w fun e w' => e = .returned (.tuple #[]) ∧ Mod no w w' := by
  have HA := Lib.hid h
  clear h
  go_enter Tryz.func16, Tryz.ntmps16
  go_wp2_with (go_at_call 30; refine (there_c (HA.out.mod_no (by first | exact Mod.refl _ _ | exact (Mod.refl _ _).alloc _ | exact ((Mod.refl _ _).alloc _).alloc _ | exact (((Mod.refl _ _).alloc _).alloc _).alloc _))).mono ?_; rintro e w' ⟨rfl, rfl⟩)
  first
    | (go_end0; exact ⟨rfl, (by first | exact Mod.refl _ _ | exact (Mod.refl _ _).alloc _ | exact ((Mod.refl _ _).alloc _).alloc _ | exact (((Mod.refl _ _).alloc _).alloc _).alloc _)⟩)
    | exact bodyPost_ret (v := .tuple #[]) (by simp [results, Tryz.results16, go_sem]) rfl ⟨rfl, (by first | exact Mod.refl _ _ | exact (Mod.refl _ _).alloc _ | exact ((Mod.refl _ _).alloc _).alloc _ | exact (((Mod.refl _ _).alloc _).alloc _).alloc _)⟩
set_option maxRecDepth 100000 in
set_option maxHeartbeats 1000000 in
theorem born_c {w : World} {v : Value} {k : List Value} (h : Cz w v) : Calls Tryz.prog 17 #[v, .agg k.toArray] w fun e w' => e = .returned (.tuple #[]) ∧ Mod no w w' := by
  have HA := Lib.hid h
  clear h
  go_enter Tryz.func17, Tryz.ntmps17
  go_wp2_with (go_at_call 30; refine (there_c (HA.out.mod_no (by first | exact Mod.refl _ _ | exact (Mod.refl _ _).alloc _ | exact ((Mod.refl _ _).alloc _).alloc _ | exact (((Mod.refl _ _).alloc _).alloc _).alloc _))).mono ?_; rintro e w' ⟨rfl, rfl⟩)
  first
    | (go_end0; exact ⟨rfl, (by first | exact Mod.refl _ _ | exact (Mod.refl _ _).alloc _ | exact ((Mod.refl _ _).alloc _).alloc _ | exact (((Mod.refl _ _).alloc _).alloc _).alloc _)⟩)
    | exact bodyPost_ret (v := .tuple #[]) (by simp [results, Tryz.results17, go_sem]) rfl ⟨rfl, (by first | exact Mod.refl _ _ | exact (Mod.refl _ _).alloc _ | exact ((Mod.refl _ _).alloc _).alloc _ | exact (((Mod.refl _ _).alloc _).alloc _).alloc _)⟩
set_option maxRecDepth 100000 in
set_option maxHeartbeats 1000000 in
theorem act_c {w : World} {v : Value} (h : Cz w v) : Calls Tryz.prog 18 #[v] w fun e w' => e = .returned (.tuple #[.bool false, .int .i64 1]) ∧ Mod no w w' := by
  have HA := Lib.hid h
  clear h
  go_enter Tryz.func18, Tryz.ntmps18
  go_wp2_with (go_at_call 30; refine (there_c (HA.out.mod_no (by first | exact Mod.refl _ _ | exact (Mod.refl _ _).alloc _ | exact ((Mod.refl _ _).alloc _).alloc _ | exact (((Mod.refl _ _).alloc _).alloc _).alloc _))).mono ?_; rintro e w' ⟨rfl, rfl⟩)
  go_ret2
  exact ⟨rfl, (by first | exact Mod.refl _ _ | exact (Mod.refl _ _).alloc _ | exact ((Mod.refl _ _).alloc _).alloc _ | exact (((Mod.refl _ _).alloc _).alloc _).alloc _)⟩
set_option maxRecDepth 100000 in
set_option maxHeartbeats 1000000 in
theorem help_c {w : World} {v : Value} (h : Cz w v) : Calls Tryz.prog 19 #[v] w fun e w' => e = .returned (.tuple #[.bool false, .int .i64 1]) ∧ Mod no w w' := by
  have HA := Lib.hid h
  clear h
  go_enter Tryz.func19, Tryz.ntmps19
  go_wp2_with (go_at_call 30; refine (there_c (HA.out.mod_no (by first | exact Mod.refl _ _ | exact (Mod.refl _ _).alloc _ | exact ((Mod.refl _ _).alloc _).alloc _ | exact (((Mod.refl _ _).alloc _).alloc _).alloc _))).mono ?_; rintro e w' ⟨rfl, rfl⟩)
  go_ret2
  exact ⟨rfl, (by first | exact Mod.refl _ _ | exact (Mod.refl _ _).alloc _ | exact ((Mod.refl _ _).alloc _).alloc _ | exact (((Mod.refl _ _).alloc _).alloc _).alloc _)⟩
set_option maxRecDepth 100000 in
set_option maxHeartbeats 1000000 in
theorem begin_c {w : World} {v : Value} (h : Cz w v) : Calls Tryz.prog 20 #[v] w fun e w' => e = .returned (.int .i64 1) ∧ Mod no w w' := by
  have HA := Lib.hid h
  clear h
  go_enter Tryz.func20, Tryz.ntmps20
  go_wp2_with (go_at_call 30; refine (there_c (HA.out.mod_no (by first | exact Mod.refl _ _ | exact (Mod.refl _ _).alloc _ | exact ((Mod.refl _ _).alloc _).alloc _ | exact (((Mod.refl _ _).alloc _).alloc _).alloc _))).mono ?_; rintro e w' ⟨rfl, rfl⟩)
  go_ret
  exact ⟨rfl, (by first | exact Mod.refl _ _ | exact (Mod.refl _ _).alloc _ | exact ((Mod.refl _ _).alloc _).alloc _ | exact (((Mod.refl _ _).alloc _).alloc _).alloc _)⟩
set_option maxRecDepth 100000 in
set_option maxHeartbeats 1000000 in
theorem ready_c {w : World} {v : Value} (h : Cz w v) : Calls Tryz.prog 21 #[v] w fun e w' => e = .returned (.bool false) ∧ Mod no w w' := by
  have HA := Lib.hid h
  clear h
  go_enter Tryz.func21, Tryz.ntmps21
  go_wp2_with (go_at_call 30; refine (there_c (HA.out.mod_no (by first | exact Mod.refl _ _ | exact (Mod.refl _ _).alloc _ | exact ((Mod.refl _ _).alloc _).alloc _ | exact (((Mod.refl _ _).alloc _).alloc _).alloc _))).mono ?_; rintro e w' ⟨rfl, rfl⟩)
  go_ret
  exact ⟨rfl, (by first | exact Mod.refl _ _ | exact (Mod.refl _ _).alloc _ | exact ((Mod.refl _ _).alloc _).alloc _ | exact (((Mod.refl _ _).alloc _).alloc _).alloc _)⟩
set_option maxRecDepth 100000 in
set_option maxHeartbeats 1000000 in
theorem phase_c {w : World} {v : Value} (h : Cz w v) : Calls Tryz.prog 22 #[v] w fun e w' => e = .returned (.int .u8 0) ∧ Mod no w w' := by
  have HA := Lib.hid h
  clear h
  go_enter Tryz.func22, Tryz.ntmps22
  go_wp2_with (go_at_call 30; refine (there_c (HA.out.mod_no (by first | exact Mod.refl _ _ | exact (Mod.refl _ _).alloc _ | exact ((Mod.refl _ _).alloc _).alloc _ | exact (((Mod.refl _ _).alloc _).alloc _).alloc _))).mono ?_; rintro e w' ⟨rfl, rfl⟩)
  go_ret
  exact ⟨rfl, (by first | exact Mod.refl _ _ | exact (Mod.refl _ _).alloc _ | exact ((Mod.refl _ _).alloc _).alloc _ | exact (((Mod.refl _ _).alloc _).alloc _).alloc _)⟩
set_option maxRecDepth 100000 in
set_option maxHeartbeats 1000000 in
theorem epoch_c {w : World} {v : Value} (h : Cz w v) : Calls Tryz.prog 23 #[v] w fun e w' => e = .returned (.int .u32 0) ∧ Mod no w w' := by
  have HA := Lib.hid h
  clear h
  go_enter Tryz.func23, Tryz.ntmps23
  go_wp2_with (go_at_call 30; refine (there_c (HA.out.mod_no (by first | exact Mod.refl _ _ | exact (Mod.refl _ _).alloc _ | exact ((Mod.refl _ _).alloc _).alloc _ | exact (((Mod.refl _ _).alloc _).alloc _).alloc _))).mono ?_; rintro e w' ⟨rfl, rfl⟩)
  go_ret
  exact ⟨rfl, (by first | exact Mod.refl _ _ | exact (Mod.refl _ _).alloc _ | exact ((Mod.refl _ _).alloc _).alloc _ | exact (((Mod.refl _ _).alloc _).alloc _).alloc _)⟩
set_option maxRecDepth 100000 in
set_option maxHeartbeats 1000000 in
theorem grey_c {w : World} {v : Value} (h : Cz w v) : Calls Tryz.prog 24 #[v] w fun e w' => e = .returned (.slice none 0 0) ∧ Mod no w w' := by
  have HA := Lib.hid h
  clear h
  go_enter Tryz.func24, Tryz.ntmps24
  go_wp2_with (go_at_call 30; refine (there_c (HA.out.mod_no (by first | exact Mod.refl _ _ | exact (Mod.refl _ _).alloc _ | exact ((Mod.refl _ _).alloc _).alloc _ | exact (((Mod.refl _ _).alloc _).alloc _).alloc _))).mono ?_; rintro e w' ⟨rfl, rfl⟩)
  go_ret
  exact ⟨rfl, (by first | exact Mod.refl _ _ | exact (Mod.refl _ _).alloc _ | exact ((Mod.refl _ _).alloc _).alloc _ | exact (((Mod.refl _ _).alloc _).alloc _).alloc _)⟩
set_option maxRecDepth 100000 in
set_option maxHeartbeats 1000000 in
theorem rnew_m {w : World} : Calls Tryz.prog 6 #[] w fun e w' => ∃ p, e = .returned (.pointer (some ⟨p, 0, none⟩)) ∧ Mod no w w' := by
  go_enter Tryz.func6, Tryz.ntmps6
  go_wp2_with fail
  go_ret
  exact ⟨_, rfl, (by first | exact Mod.refl _ _ | exact (Mod.refl _ _).alloc _ | exact ((Mod.refl _ _).alloc _).alloc _ | exact (((Mod.refl _ _).alloc _).alloc _).alloc _)⟩
set_option maxRecDepth 100000 in
set_option maxHeartbeats 1000000 in
theorem pnew_m {w : World} : Calls Tryz.prog 7 #[] w fun e w' => ∃ p, e = .returned (.pointer (some ⟨p, 0, none⟩)) ∧ Mod no w w' := by
  go_enter Tryz.func7, Tryz.ntmps7
  go_wp2_with fail
  go_ret
  exact ⟨_, rfl, (by first | exact Mod.refl _ _ | exact (Mod.refl _ _).alloc _ | exact ((Mod.refl _ _).alloc _).alloc _ | exact (((Mod.refl _ _).alloc _).alloc _).alloc _)⟩
set_option maxRecDepth 100000 in
set_option maxHeartbeats 1000000 in
theorem cnew_a {w : World} {x r p : Option Addr} {ep : Int} : Calls Tryz.prog 8 #[.pointer none, .pointer x, .pointer r, .pointer p, .int .u32 ep] w fun e w' => e = .returned (.pointer none) ∧ w = w' := by
  go_enter Tryz.func8, Tryz.ntmps8
  go_wp2_with fail
  go_ret
  exact ⟨rfl, rfl⟩
set_option maxRecDepth 100000 in
set_option maxHeartbeats 1000000 in
theorem cnew_x {w : World} {a : Nat} {r p : Option Addr} {ep : Int} : Calls Tryz.prog 8 #[.pointer (some ⟨a, 0, none⟩), .pointer none, .pointer r, .pointer p, .int .u32 ep] w fun e w' => e = .returned (.pointer none) ∧ w = w' := by
  go_enter Tryz.func8, Tryz.ntmps8
  go_wp2_with fail
  go_ret
  exact ⟨rfl, rfl⟩
set_option maxRecDepth 100000 in
set_option maxHeartbeats 1000000 in
theorem cnew_r {w : World} {a x : Nat} {p : Option Addr} {ep : Int} : Calls Tryz.prog 8 #[.pointer (some ⟨a, 0, none⟩), .pointer (some ⟨x, 0, none⟩), .pointer none, .pointer p, .int .u32 ep] w fun e w' => e = .returned (.pointer none) ∧ w = w' := by
  go_enter Tryz.func8, Tryz.ntmps8
  go_wp2_with fail
  go_ret
  exact ⟨rfl, rfl⟩
set_option maxRecDepth 100000 in
set_option maxHeartbeats 1000000 in
theorem cnew_p {w : World} {a x r : Nat} {ep : Int} : Calls Tryz.prog 8 #[.pointer (some ⟨a, 0, none⟩), .pointer (some ⟨x, 0, none⟩), .pointer (some ⟨r, 0, none⟩), .pointer none, .int .u32 ep] w fun e w' => e = .returned (.pointer none) ∧ w = w' := by
  go_enter Tryz.func8, Tryz.ntmps8
  go_wp2_with fail
  go_ret
  exact ⟨rfl, rfl⟩
set_option maxRecDepth 100000 in
set_option maxHeartbeats 1000000 in
theorem cnew_has {w : World} {a x r p : Nat} {ep : Int} : Calls Tryz.prog 8 #[.pointer (some ⟨a, 0, none⟩), .pointer (some ⟨x, 0, none⟩), .pointer (some ⟨r, 0, none⟩), .pointer (some ⟨p, 0, none⟩), .int .u32 ep] w fun e w' => ∃ p, e = .returned (.pointer (some ⟨p, 0, none⟩)) ∧ Mod no w w' := by
  go_enter Tryz.func8, Tryz.ntmps8
  go_wp2_with fail
  refine gnew_m.mono ?_
  rintro e w1 ⟨gl, rfl, m1⟩
  have H1 := Lib.hid m1
  clear m1
  go_wp2_with fail
  refine mnew_has.mono ?_
  rintro e w2 ⟨mk, rfl, m2⟩
  have H2 := Lib.hid (H1.out.and_then m2)
  clear m2 H1
  go_wp2_with fail
  go_ret
  exact ⟨_, rfl, H2.out.alloc _⟩

end Go.Proofs.YtcpflggjolkjgaaGreatDoor.MN
