/- May a rule be: both ways; the document's digits, its number (printed by keeprule.py). -/
import Derived.Test.YtoncjoelkenjnaaDoorChecked
import Derived.Test.YtoncjoelkenjnaaDoorMem
import Derived.Test.YtoncjoelkenjnaaDoorKrM
import Derived.WalkKit
import Derived.WalkSpells
import Derived.Lib.Hide
import Derived.Laws.Strings
import Derived.Deep.RegionWith
namespace Go.Proofs.YtoncjoelkenjnaaDoor.KR
open Go.RowKit Mem
set_option linter.unusedVariables false
set_option linter.unusedSimpArgs false

/-- A rule as a value; its cells. -/
def Rc (r : Rule) : Array Value := #[.int .i16 r.l, .int .i16 r.h, .int .i16 r.d, .int .i16 r.w, .int .i16 r.m, .int .i16 r.y, .int .i64 r.x]
abbrev Rv (l h d w m y x : Int) : Value := .agg #[.int .i16 l, .int .i16 h, .int .i16 d, .int .i16 w, .int .i16 m, .int .i16 y, .int .i64 x]
def sv (l : List UInt8) : ByteArray := ⟨l.toArray⟩
theorem sv_append (a b : List UInt8) : sv a ++ sv b = sv (a ++ b) := by
  apply congrArg ByteArray.mk
  simp [sv]
theorem sv_list (l : List UInt8) : (sv l).toList = l := by rw [ByteArray.toList_eq]; simp [sv]
theorem sv_size (l : List UInt8) : (sv l).size = l.length := by simp [sv, ByteArray.size]
theorem sv_of (s : ByteArray) : s = sv s.data.toList := by cases s; simp [sv]
set_option maxRecDepth 100000 in
set_option maxHeartbeats 4000000 in
theorem right_p {w : World} (l h d v m y x : Int) : Calls Tryd.prog 9 #[Rv l h d v m y x] w fun e w' => e = .returned (.bool (decide (Rule.right ⟨l, h, d, v, m, y, x⟩))) ∧ Mod no w w' := by
  by_cases c0 : 0 ≤ l
  case neg =>
    have HD := Lib.hid (show decide (Rule.right ⟨l, h, d, v, m, y, x⟩) = false from decide_eq_false (fun q => c0 (by obtain ⟨q0, q1, q2, q3, q4, q5, q6⟩ := q; assumption)))
    go_enter Tryd.func9, Tryd.ntmps9
    go_wp2_with fail
    go_ret
    exact ⟨by rw [HD.out]; rfl, (Mod.refl no w).alloc _⟩
  by_cases c1 : 0 ≤ h
  case neg =>
    have HD := Lib.hid (show decide (Rule.right ⟨l, h, d, v, m, y, x⟩) = false from decide_eq_false (fun q => c1 (by obtain ⟨q0, q1, q2, q3, q4, q5, q6⟩ := q; assumption)))
    go_enter Tryd.func9, Tryd.ntmps9
    go_wp2_with fail
    go_ret
    exact ⟨by rw [HD.out]; rfl, (Mod.refl no w).alloc _⟩
  by_cases c2 : 0 ≤ d
  case neg =>
    have HD := Lib.hid (show decide (Rule.right ⟨l, h, d, v, m, y, x⟩) = false from decide_eq_false (fun q => c2 (by obtain ⟨q0, q1, q2, q3, q4, q5, q6⟩ := q; assumption)))
    go_enter Tryd.func9, Tryd.ntmps9
    go_wp2_with fail
    go_ret
    exact ⟨by rw [HD.out]; rfl, (Mod.refl no w).alloc _⟩
  by_cases c3 : 0 ≤ v
  case neg =>
    have HD := Lib.hid (show decide (Rule.right ⟨l, h, d, v, m, y, x⟩) = false from decide_eq_false (fun q => c3 (by obtain ⟨q0, q1, q2, q3, q4, q5, q6⟩ := q; assumption)))
    go_enter Tryd.func9, Tryd.ntmps9
    go_wp2_with fail
    go_ret
    exact ⟨by rw [HD.out]; rfl, (Mod.refl no w).alloc _⟩
  by_cases c4 : 0 ≤ m
  case neg =>
    have HD := Lib.hid (show decide (Rule.right ⟨l, h, d, v, m, y, x⟩) = false from decide_eq_false (fun q => c4 (by obtain ⟨q0, q1, q2, q3, q4, q5, q6⟩ := q; assumption)))
    go_enter Tryd.func9, Tryd.ntmps9
    go_wp2_with fail
    go_ret
    exact ⟨by rw [HD.out]; rfl, (Mod.refl no w).alloc _⟩
  by_cases c5 : 0 ≤ y
  case neg =>
    have HD := Lib.hid (show decide (Rule.right ⟨l, h, d, v, m, y, x⟩) = false from decide_eq_false (fun q => c5 (by obtain ⟨q0, q1, q2, q3, q4, q5, q6⟩ := q; assumption)))
    go_enter Tryd.func9, Tryd.ntmps9
    go_wp2_with fail
    go_ret
    exact ⟨by rw [HD.out]; rfl, (Mod.refl no w).alloc _⟩
  by_cases c6 : 0 ≤ x
  case neg =>
    have HD := Lib.hid (show decide (Rule.right ⟨l, h, d, v, m, y, x⟩) = false from decide_eq_false (fun q => c6 (by obtain ⟨q0, q1, q2, q3, q4, q5, q6⟩ := q; assumption)))
    go_enter Tryd.func9, Tryd.ntmps9
    go_wp2_with fail
    go_ret
    exact ⟨by rw [HD.out]; rfl, (Mod.refl no w).alloc _⟩
  have HD := Lib.hid (show decide (Rule.right ⟨l, h, d, v, m, y, x⟩) = true from decide_eq_true ⟨c0, c1, c2, c3, c4, c5, c6⟩)
  go_enter Tryd.func9, Tryd.ntmps9
  go_wp2_with fail
  go_ret
  exact ⟨by rw [HD.out]; rfl, (Mod.refl no w).alloc _⟩
set_option maxRecDepth 100000 in
set_option maxHeartbeats 4000000 in
theorem right_r {w : World} (l h d v m y x : Int) : Calls Tryd.prog 13 #[Rv l h d v m y x] w fun e w' => e = .returned (.bool (decide (Rule.right ⟨l, h, d, v, m, y, x⟩))) ∧ Mod no w w' := by
  by_cases c0 : 0 ≤ l
  case neg =>
    have HD := Lib.hid (show decide (Rule.right ⟨l, h, d, v, m, y, x⟩) = false from decide_eq_false (fun q => c0 (by obtain ⟨q0, q1, q2, q3, q4, q5, q6⟩ := q; assumption)))
    go_enter Tryd.func13, Tryd.ntmps13
    go_wp2_with fail
    go_ret
    exact ⟨by rw [HD.out]; rfl, (Mod.refl no w).alloc _⟩
  by_cases c1 : 0 ≤ h
  case neg =>
    have HD := Lib.hid (show decide (Rule.right ⟨l, h, d, v, m, y, x⟩) = false from decide_eq_false (fun q => c1 (by obtain ⟨q0, q1, q2, q3, q4, q5, q6⟩ := q; assumption)))
    go_enter Tryd.func13, Tryd.ntmps13
    go_wp2_with fail
    go_ret
    exact ⟨by rw [HD.out]; rfl, (Mod.refl no w).alloc _⟩
  by_cases c2 : 0 ≤ d
  case neg =>
    have HD := Lib.hid (show decide (Rule.right ⟨l, h, d, v, m, y, x⟩) = false from decide_eq_false (fun q => c2 (by obtain ⟨q0, q1, q2, q3, q4, q5, q6⟩ := q; assumption)))
    go_enter Tryd.func13, Tryd.ntmps13
    go_wp2_with fail
    go_ret
    exact ⟨by rw [HD.out]; rfl, (Mod.refl no w).alloc _⟩
  by_cases c3 : 0 ≤ v
  case neg =>
    have HD := Lib.hid (show decide (Rule.right ⟨l, h, d, v, m, y, x⟩) = false from decide_eq_false (fun q => c3 (by obtain ⟨q0, q1, q2, q3, q4, q5, q6⟩ := q; assumption)))
    go_enter Tryd.func13, Tryd.ntmps13
    go_wp2_with fail
    go_ret
    exact ⟨by rw [HD.out]; rfl, (Mod.refl no w).alloc _⟩
  by_cases c4 : 0 ≤ m
  case neg =>
    have HD := Lib.hid (show decide (Rule.right ⟨l, h, d, v, m, y, x⟩) = false from decide_eq_false (fun q => c4 (by obtain ⟨q0, q1, q2, q3, q4, q5, q6⟩ := q; assumption)))
    go_enter Tryd.func13, Tryd.ntmps13
    go_wp2_with fail
    go_ret
    exact ⟨by rw [HD.out]; rfl, (Mod.refl no w).alloc _⟩
  by_cases c5 : 0 ≤ y
  case neg =>
    have HD := Lib.hid (show decide (Rule.right ⟨l, h, d, v, m, y, x⟩) = false from decide_eq_false (fun q => c5 (by obtain ⟨q0, q1, q2, q3, q4, q5, q6⟩ := q; assumption)))
    go_enter Tryd.func13, Tryd.ntmps13
    go_wp2_with fail
    go_ret
    exact ⟨by rw [HD.out]; rfl, (Mod.refl no w).alloc _⟩
  by_cases c6 : 0 ≤ x
  case neg =>
    have HD := Lib.hid (show decide (Rule.right ⟨l, h, d, v, m, y, x⟩) = false from decide_eq_false (fun q => c6 (by obtain ⟨q0, q1, q2, q3, q4, q5, q6⟩ := q; assumption)))
    go_enter Tryd.func13, Tryd.ntmps13
    go_wp2_with fail
    go_ret
    exact ⟨by rw [HD.out]; rfl, (Mod.refl no w).alloc _⟩
  have HD := Lib.hid (show decide (Rule.right ⟨l, h, d, v, m, y, x⟩) = true from decide_eq_true ⟨c0, c1, c2, c3, c4, c5, c6⟩)
  go_enter Tryd.func13, Tryd.ntmps13
  go_wp2_with fail
  go_ret
  exact ⟨by rw [HD.out]; rfl, (Mod.refl no w).alloc _⟩

theorem conv1 {w : World} {g : Nat} {x : Int} (hc : w.cell? ⟨g, 0, none⟩ = some (.int .u8 x)) : (convert 50 9 (.slice (some ⟨g, 0, none⟩) 1 1)).run Tryd.prog w = .ok (.string (strOfNums [x])) w :=
  run_convert_bytes_arg (P := Tryd.prog) w _ _ Tryd.underlying50 Tryd.underlying5 g 0 1 1 [x] rfl (fun i hi => by
    obtain rfl : i = 0 := by omega
    exact hc) _ Tryd.underlying9
theorem nums1 {u : Nat} : strOfNums [48 + (u : Int)] = sv [UInt8.ofNat (48 + u)] := by
  unfold strOfNums sv
  congr 2
theorem nDigits_le : ∀ (k u : Nat), u < 10 ^ (k + 1) → Lib.nDigits u ≤ k + 1
  | 0, u, h => by rw [Lib.nDigits_small (by simpa using h)]; omega
  | k + 1, u, h => by
    by_cases hu : u < 10
    · rw [Lib.nDigits_small hu]; omega
    · rw [Lib.nDigits_big hu]
      have := nDigits_le k (u / 10) (by rw [Nat.pow_succ] at h; omega)
      omega
theorem dec_len {u : Nat} (h : u ≤ 9223372036854775808) : (Lib.decDigits u).length ≤ 20 := by
  rw [Lib.decDigits_length]
  exact nDigits_le 19 u (by omega)
set_option maxRecDepth 100000 in
theorem digits_one {w : World} {u : Nat} (h : u < 10) : Calls Tryd.prog 14 #[.int .i64 (u : Int)] w fun e w' => e = .returned (.string (sv (Lib.decDigits u))) ∧ Mod no w w' := by
  have g3 : (u : Int) < 10 := by omega
  have HD := Lib.hid (Lib.decDigits_one h)
  have e1 : IntKind.u8.wrap (IntKind.i64.wrap (48 + (u : Int))) = 48 + (u : Int) := by rw [IntWalk.i64_in _ (by omega)]; exact IntWalk.u8_in _ (by omega)
  have hcv := conv1 (w := w.alloc (.cells #[.int .u8 (48 + (u : Int))] 5)) (g := w.heap.size) (x := 48 + (u : Int)) ((Blk.new w _ _).cell 0)
  go_enter Tryd.func14, Tryd.ntmps14
  go_wp2_with fail
  go_ret
  exact ⟨by rw [HD.out, ← nums1]; rfl, (Mod.refl no w).alloc _⟩
set_option maxRecDepth 100000 in
set_option maxHeartbeats 4000000 in
theorem digits_more {w : World} {u : Nat} (h : ¬ u < 10) (hu : u < 9223372036854775808) (IH : ∀ w, Calls Tryd.prog 14 #[.int .i64 ((u / 10 : Nat) : Int)] w fun e w' => e = .returned (.string (sv (Lib.decDigits (u / 10)))) ∧ Mod no w w') :
    Calls Tryd.prog 14 #[.int .i64 (u : Int)] w fun e w' => e = .returned (.string (sv (Lib.decDigits u))) ∧ Mod no w w' := by
  have g3 : ¬ (u : Int) < 10 := by omega
  rw [show ((u / 10 : Nat) : Int) = (u : Int) / 10 from rfl] at IH
  obtain ⟨A, hA⟩ : ∃ A, A = Lib.decDigits (u / 10) := ⟨_, rfl⟩
  have hz1 : (sv A).size ≤ 20 := by rw [sv_size, hA]; exact dec_len (by omega)
  rw [← hA] at IH
  have HI := Lib.hid IH
  have HA := Lib.hid hA
  clear hA
  have HDD := Lib.hid (show Lib.decDigits u = Lib.decDigits (u / 10) ++ [UInt8.ofNat (48 + u % 10)] by rw [Lib.decDigits, dif_neg h])
  clear IH
  have e1 : IntKind.i64.wrap ((u : Int) / 10) = (u : Int) / 10 := IntWalk.i64_in _ (by omega)
  obtain ⟨d, hd⟩ : ∃ d : Nat, d = 48 + u % 10 := ⟨_, rfl⟩
  have hdb : d < 58 := by omega
  have e2 : IntKind.u8.wrap (IntKind.i64.wrap (48 + (u : Int).tmod 10)) = (d : Int) := by
    rw [Int.tmod_eq_emod_of_nonneg (by omega)]
    have : IntKind.i64.wrap (48 + (u : Int) % 10) = (d : Int) := by
      rw [IntWalk.i64_in _ (by omega)]; omega
    rw [this]; exact IntWalk.u8_in _ (by omega)
  have e3 : strOfNums [(d : Int)] = sv [UInt8.ofNat (48 + u % 10)] := by
    rw [← hd]; unfold strOfNums sv; simp
  have hz2 : (strOfNums [(d : Int)]).size = 1 := by rw [e3, sv_size]; rfl
  have HE3 := Lib.hid e3
  have HD := Lib.hid hd
  clear hd e3
  have hcv := fun (W : World) => conv1 (w := W.alloc (.cells #[.int .u8 (d : Int)] 5)) (g := W.heap.size) (x := (d : Int)) ((Blk.new W _ _).cell 0)
  have hcd := fun (W : World) => conv1 (w := (W.alloc (.cells #[.int .u8 (d : Int)] 5)).drew) (g := W.heap.size) (x := (d : Int)) (((Blk.new W 5 #[.int .u8 (d : Int)]).drew).cell 0)
  go_enter Tryd.func14, Tryd.ntmps14
  go_wp2_with fail
  go_region_with (go_at_call 14; refine (HI.out _).mono ?_; rintro e w2 ⟨rfl, m2⟩; first | (have hcv2 := conv1 (x := (d : Int)) ((m2.cell (p := ⟨w.heap.size, 0, none⟩) (by simp) (fun c => c)).trans (show ((w.alloc (.cells #[.int .u8 (d : Int)] 5)).drew).cell? ⟨w.heap.size, 0, none⟩ = _ from ((Blk.new w 5 #[.int .u8 (d : Int)]).drew).cell 0))) | skip)
  all_goals (
    go_wp2_with fail
    go_ret
    refine ⟨by rw [HDD.out, ← sv_append, ← HA.out, ← HE3.out]; rfl, ?_⟩
    first
      | exact ((Mod.refl no w).drew.and_then m2).alloc _
      | exact (((Mod.refl no w).alloc _).drew).and_then m2)
theorem digits_nat (u : Nat) : u < 9223372036854775808 → ∀ w : World, Calls Tryd.prog 14 #[.int .i64 (u : Int)] w fun e w' => e = .returned (.string (sv (Lib.decDigits u))) ∧ Mod no w w' := by
  induction u using Nat.strongRecOn with
  | _ u ih =>
    intro hu w
    by_cases h : u < 10
    · exact digits_one h
    · exact digits_more h hu (ih (u / 10) (by omega) (by omega))
theorem digits_any {w : World} {n : Int} (h0 : 0 ≤ n) (h1 : n ≤ 9223372036854775807) : Calls Tryd.prog 14 #[.int .i64 n] w fun e w' => e = .returned (.string (sv (Lib.itoa n))) ∧ Mod no w w' := by
  obtain ⟨u, rfl⟩ : ∃ u : Nat, n = (u : Int) := ⟨n.toNat, by omega⟩
  rw [Lib.itoa_nonneg]
  exact digits_nat u (by omega) w
end Go.Proofs.YtoncjoelkenjnaaDoor.KR
