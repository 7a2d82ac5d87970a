/- The marker's methods on a nil marker, or on a zero one; a marker made (printed by marknil.py). -/
import Derived.Test.YtcpflggjolkjgaaGreatDoorChecked
import Derived.Test.YtcpflggjolkjgaaGreatDoorMem
import Derived.WalkKit
import Derived.WalkSpells
import Derived.Lib.Hide
import Derived.Lib.SliceRun
import Derived.OwnWalk
import Derived.BigQuiet
import Derived.Deep.RegionWith
namespace Go.Proofs.YtcpflggjolkjgaaGreatDoor.MN
open Go.RowKit Mem
set_option linter.unusedVariables false
set_option linter.unusedSimpArgs false

/-- A nil marker, or a zero one. -/
def Mz (w : World) (v : Value) : Prop := v = .pointer none ∨ ∃ z, v = .pointer (some ⟨z, 0, none⟩) ∧ Blk w z 105 #[.nilFunc, .nilFunc, .nilFunc, .pointer none]
theorem Mz.mod_no {w w' : World} {v : Value} (h : Mz w v) (hm : Mod no w w') : Mz w' v := by
  rcases h with h | ⟨z, e, hb⟩
  · exact .inl h
  · exact .inr ⟨z, e, hb.mod hm (fun c => c)⟩
set_option maxRecDepth 100000 in
set_option maxHeartbeats 1000000 in
theorem there_m {w : World} {v : Value} (h : Mz w v) : Calls Tryz.prog 49 #[v] w fun e w' => e = .returned (.bool false) ∧ w = w' := by
  rcases h with rfl | ⟨z, rfl, hb⟩
  · go_enter Tryz.func49, Tryz.ntmps49
    go_wp2_with fail
    go_ret
    exact ⟨rfl, rfl⟩
  · have c3 := hb.cell 3
    simp at c3
    clear hb
    go_enter Tryz.func49, Tryz.ntmps49
    go_wp2_with fail
    go_ret
    exact ⟨rfl, rfl⟩
set_option maxRecDepth 100000 in
set_option maxHeartbeats 1000000 in
theorem piece_m {w : World} {v : Value} {n : Int} {b : Bool} (h : Mz w v) : Calls Tryz.prog 38 #[v, .int .u32 n, .bool b] w fun e w' => e = .returned (.tuple #[.bool false, .int .i64 1]) ∧ Mod no w w' := by
  have HA := Lib.hid h
  clear h
  go_enter Tryz.func38, Tryz.ntmps38
  go_wp2_with (go_at_call 49; refine (there_m (HA.out.mod_no (by first | exact Mod.refl _ _ | exact (Mod.refl _ _).alloc _ | exact ((Mod.refl _ _).alloc _).alloc _ | exact (((Mod.refl _ _).alloc _).alloc _).alloc _))).mono ?_; rintro e w' ⟨rfl, rfl⟩)
  go_ret2
  exact ⟨rfl, (by first | exact Mod.refl _ _ | exact (Mod.refl _ _).alloc _ | exact ((Mod.refl _ _).alloc _).alloc _ | exact (((Mod.refl _ _).alloc _).alloc _).alloc _)⟩
set_option maxRecDepth 100000 in
set_option maxHeartbeats 1000000 in
theorem kids_m {w : World} {v : Value} {k : List Value} (h : Mz w v) : Calls Tryz.prog 58 #[v, .agg k.toArray] w fun e w' => e = .returned (.tuple #[.slice none 0 0, .int .i64 1]) ∧ Mod no w w' := by
  have HA := Lib.hid h
  clear h
  go_enter Tryz.func58, Tryz.ntmps58
  go_wp2_with (go_at_call 49; refine (there_m (HA.out.mod_no (by first | exact Mod.refl _ _ | exact (Mod.refl _ _).alloc _ | exact ((Mod.refl _ _).alloc _).alloc _ | exact (((Mod.refl _ _).alloc _).alloc _).alloc _))).mono ?_; rintro e w' ⟨rfl, rfl⟩)
  go_ret2
  exact ⟨rfl, (by first | exact Mod.refl _ _ | exact (Mod.refl _ _).alloc _ | exact ((Mod.refl _ _).alloc _).alloc _ | exact (((Mod.refl _ _).alloc _).alloc _).alloc _)⟩
theorem quiet_left {P : Program} {f : FuncId} {args : Array Value} {w : World} {n : Nat} {v : Value}
    (h : Calls P f args (w.drewN n) fun e w' => e = .returned v ∧ w.drewN n = w') : Calls P f args (w.drewN n) fun e w' => e = .returned v ∧ ∃ m, w' = w.drewN m :=
  h.mono fun _ _ ⟨he, hm⟩ => ⟨he, n, hm.symm⟩
set_option maxRecDepth 100000 in
set_option maxHeartbeats 1000000 in
theorem touch_m {w : World} {v : Value} {k : List Value} {n : Int} (h : Mz w v) : Calls Tryz.prog 32 #[v, .agg k.toArray, .int .u32 n] w fun e w' => e = .returned (.bool false) ∧ Mod no w w' := by
  have HA := Lib.hid h
  clear h
  go_enter Tryz.func32, Tryz.ntmps32
  go_wp2_with fail
  go_quiet (first | (go_at_call 49; exact quiet_left (there_m (HA.out.mod_no (((Mod.refl no _).alloc _).drewN _)))))
  go_wp2_with fail
  go_ret
  exact ⟨rfl, ((Mod.refl no _).alloc _).drewN _⟩

set_option maxRecDepth 100000 in
set_option maxHeartbeats 1000000 in
theorem mnew_has {w : World} {a x l : Nat} : Calls Tryz.prog 15 #[.pointer (some ⟨a, 0, none⟩), .pointer (some ⟨x, 0, none⟩), .pointer (some ⟨l, 0, none⟩)] w fun e w' => ∃ m, e = .returned (.pointer (some ⟨m, 0, none⟩)) ∧ Mod no w w' := by
  go_enter Tryz.func15, Tryz.ntmps15
  go_wp2_with fail
  go_ret
  exact ⟨_, rfl, (by first | exact Mod.refl _ _ | exact (Mod.refl _ _).alloc _ | exact ((Mod.refl _ _).alloc _).alloc _ | exact (((Mod.refl _ _).alloc _).alloc _).alloc _)⟩
set_option maxRecDepth 100000 in
set_option maxHeartbeats 1000000 in
theorem mnew_a {w : World} {x l : Option Addr} : Calls Tryz.prog 15 #[.pointer none, .pointer x, .pointer l] w fun e w' => e = .returned (.pointer none) ∧ w = w' := by
  go_enter Tryz.func15, Tryz.ntmps15
  go_wp2_with fail
  go_ret
  exact ⟨rfl, rfl⟩
set_option maxRecDepth 100000 in
set_option maxHeartbeats 1000000 in
theorem mnew_x {w : World} {a : Nat} {l : Option Addr} : Calls Tryz.prog 15 #[.pointer (some ⟨a, 0, none⟩), .pointer none, .pointer l] w fun e w' => e = .returned (.pointer none) ∧ w = w' := by
  go_enter Tryz.func15, Tryz.ntmps15
  go_wp2_with fail
  go_ret
  exact ⟨rfl, rfl⟩
set_option maxRecDepth 100000 in
set_option maxHeartbeats 1000000 in
theorem mnew_l {w : World} {a x : Nat} : Calls Tryz.prog 15 #[.pointer (some ⟨a, 0, none⟩), .pointer (some ⟨x, 0, none⟩), .pointer none] w fun e w' => e = .returned (.pointer none) ∧ w = w' := by
  go_enter Tryz.func15, Tryz.ntmps15
  go_wp2_with fail
  go_ret
  exact ⟨rfl, rfl⟩

end Go.Proofs.YtcpflggjolkjgaaGreatDoor.MN
