/- The law's digits are strconv.Itoa's, of any int; an error's text, a fault's text. -/
import Derived.Test.YtdmfipkmalhngaaDoorFtA
import Derived.Shelf.Unicode.PredsPay
namespace Go.Proofs.YtdmfipkmalhngaaDoor.FT
open Go.RowKit Mem
set_option linter.unusedVariables false
set_option linter.unusedSimpArgs false

theorem itoa_len {n : Int} (h0 : -9223372036854775808 ≤ n) (h1 : n ≤ 9223372036854775807) : (Lib.itoa n).length ≤ 21 := by
  unfold Lib.itoa
  split
  · have := dec_len (u := n.natAbs) (by omega); simp; omega
  · have := dec_len (u := n.toNat) (by omega); omega
theorem itoa_least : Lib.itoa (-9223372036854775808) = [45, 57, 50, 50, 51, 51, 55, 50, 48, 51, 54, 56, 53, 52, 55, 55, 53, 56, 48, 56] := by
  have hn : Lib.nDigits 9223372036854775808 = 19 := Lib.nDigits_unique 18 _ (by decide) (by decide)
  show (if _ then 45 :: Lib.decDigits 9223372036854775808 else _) = _
  rw [if_pos (by decide), Lib.decDigits_eq, hn]
  decide
set_option maxRecDepth 100000 in
set_option maxHeartbeats 1000000 in
theorem digits_any {w : World} {n : Int} (h0 : -9223372036854775808 ≤ n) (h1 : n ≤ 9223372036854775807) : Calls Tryd.prog 5 #[.int .i64 n] w fun e w' => e = .returned (.string (sv (Lib.itoa n))) ∧ Mod no w w' := by
  by_cases hm : n = -9223372036854775808
  · subst hm
    have HE := Lib.hid itoa_least
    go_enter Tryd.func5, Tryd.ntmps5
    go_wp2_with fail
    go_ret
    exact ⟨by rw [HE.out]; rfl, Mod.refl _ _⟩
  by_cases hneg : n < 0
  · obtain ⟨u, hu⟩ : ∃ u : Nat, n = -(u : Int) := ⟨n.natAbs, by omega⟩
    subst hu
    have hu1 : 0 < u := by omega
    have HE := Lib.hid (show Lib.itoa (-(u : Int)) = 45 :: Lib.decDigits u by unfold Lib.itoa; rw [if_pos (by omega)]; simp)
    have HL := Lib.hid (show u < 9223372036854775808 by omega)
    have e1 : IntKind.i64.wrap (- -(u : Int)) = (u : Int) := by rw [Int.neg_neg]; exact IntWalk.i64_in _ (by omega)
    have e2 : IntKind.i64.wrap (u : Int) = (u : Int) := IntWalk.i64_in _ (by omega)
    obtain ⟨A, hA⟩ : ∃ A, A = Lib.decDigits u := ⟨_, rfl⟩
    have hz1 : (sv A).size ≤ 20 := by rw [sv_size, hA]; exact dec_len (by omega)
    have HI := Lib.hid (show ∀ w, Calls Tryd.prog 5 #[.int .i64 (u : Int)] w fun e w' => e = .returned (.string (sv A)) ∧ Mod no w w' by rw [hA]; exact digits_nat u HL.out)
    have HA := Lib.hid hA
    clear hA
    go_enter Tryd.func5, Tryd.ntmps5
    go_wp2_with (go_at_call 5; refine (HI.out _).mono ?_; rintro e w2 ⟨rfl, m2⟩)
    go_ret
    refine ⟨?_, m2⟩
    rw [HE.out, ← HA.out, show (45 : UInt8) :: A = [45] ++ A from rfl, ← sv_append]; rfl
  · obtain ⟨u, rfl⟩ : ∃ u : Nat, n = (u : Int) := ⟨n.toNat, by omega⟩
    have : Lib.itoa (u : Int) = Lib.decDigits u := by unfold Lib.itoa; rw [if_neg (by omega)]; rfl
    rw [this]
    exact digits_nat u (by omega) w
/-- The library's table of powers. -/
def TW (w : World) : Prop := Lib.TabIs Tryd.prog w "internal/strconv.uint64pow10" .u64 Lib.pow10Tab
theorem grow_mod (w : World) (os : Array Obj) : Mod no w (Go.Sort.grow w os) := ⟨rfl, rfl, rfl, by simp [Go.Sort.grow], fun k hk _ => by simp [Go.Sort.grow, Array.getElem?_append, hk]⟩
theorem TW.mod {w w' : World} (h : TW w) (m : Mod no w w') : TW w' :=
  TabIs_below (g := (Tryd.prog.globalNamed "internal/strconv.uint64pow10").getD 0) (by kernel_rfl) h (m.below (Nat.le_refl _) (fun _ _ c => c.elim))
theorem itoa_m {w : World} {n : Int} (h0 : -9223372036854775808 ≤ n) (h1 : n ≤ 9223372036854775807) (hT : TW w) : Calls Tryd.prog 9 #[.int .i64 n] w fun e w' => e = .returned (.string (sv (Lib.itoa n))) ∧ Mod no w w' :=
  (strconv_Itoa n h0 h1 w hT).mono fun e w' ⟨he, k, os, hw⟩ => ⟨he, by rw [hw]; exact ((Mod.refl no w).drewN k).and_then (grow_mod _ _)⟩
set_option maxRecDepth 100000 in
theorem errno_error {w : World} {n : Int} (h0 : -9223372036854775808 ≤ n) (h1 : n ≤ 9223372036854775807) (hT : TW w) : Calls Tryd.prog 10 #[.int .i64 n] w fun e w' => e = .returned (.string (sv ([101, 114, 114, 111, 114, 32] ++ Lib.itoa n))) ∧ Mod no w w' := by
  obtain ⟨A, hA⟩ : ∃ A, A = Lib.itoa n := ⟨_, rfl⟩
  have hz1 : (sv A).size ≤ 21 := by rw [sv_size, hA]; exact itoa_len h0 h1
  have HI := Lib.hid (show Calls Tryd.prog 9 #[.int .i64 n] w fun e w' => e = .returned (.string (sv A)) ∧ Mod no w w' by rw [hA]; exact itoa_m h0 h1 hT)
  rw [← hA]
  clear hA hT
  go_enter Tryd.func10, Tryd.ntmps10
  go_wp2_with (go_at_call 9; refine HI.out.mono ?_; rintro e w2 ⟨rfl, m2⟩)
  go_ret
  exact ⟨by rw [show (101 :: 114 :: 114 :: 111 :: 114 :: 32 :: A) = [101, 114, 114, 111, 114, 32] ++ A from rfl, ← sv_append]; rfl, m2⟩
/-- A fault's text: "at ", its place, ": error ", its number. -/
def faultText (a c : Int) : List UInt8 := [97, 116, 32] ++ Lib.itoa a ++ [58, 32] ++ ([101, 114, 114, 111, 114, 32] ++ Lib.itoa c)
set_option maxRecDepth 100000 in
set_option maxHeartbeats 4000000 in
theorem fault_error {w : World} {a c : Int} (ha0 : -9223372036854775808 ≤ a) (ha1 : a ≤ 9223372036854775807) (hc0 : -9223372036854775808 ≤ c) (hc1 : c ≤ 9223372036854775807) (hT : TW w) :
    Calls Tryd.prog 4 #[.agg #[.int .i64 a, .int .i64 c]] w fun e w' => e = .returned (.string (sv (faultText a c))) ∧ Mod no w w' := by
  have hz1 : (sv (Lib.itoa a)).size ≤ 21 := by rw [sv_size]; exact itoa_len ha0 ha1
  have hz2 : (sv ([101, 114, 114, 111, 114, 32] ++ Lib.itoa c)).size ≤ 27 := by rw [sv_size]; have := itoa_len hc0 hc1; simp; omega
  have HI := Lib.hid (fun (W : World) (h : TW W) => itoa_m ha0 ha1 h)
  have HC := Lib.hid (fun (W : World) (h : TW W) => errno_error hc0 hc1 h)
  have HM := Lib.hid (fun (W : World) (m : Mod no w W) => hT.mod m)
  have HE : faultText a c = [97, 116, 32] ++ Lib.itoa a ++ [58, 32] ++ ([101, 114, 114, 111, 114, 32] ++ Lib.itoa c) := rfl
  rw [HE]
  clear HE
  generalize Lib.itoa a = A at *
  generalize [101, 114, 114, 111, 114, 32] ++ Lib.itoa c = C at *
  clear hT
  go_enter Tryd.func4, Tryd.ntmps4
  go_wp2_with fail
  go_region_with (first
    | (go_at_call 9; refine (HI.out _ (HM.out _ ?_)).mono ?_; (first | exact ((Mod.refl no w).alloc _) | exact ((Mod.refl no w).alloc _).drew); rintro e w2 ⟨rfl, m2⟩; have c2 := (m2.cell (p := ⟨w.heap.size, 1, none⟩) (by simp) (fun c => c)).trans (show ((w.alloc (.cells #[.int .i64 a, .int .i64 c] 24)).drew).cell? ⟨w.heap.size, 1, none⟩ = some (.int .i64 c) from ((Blk.new w 24 #[.int .i64 a, .int .i64 c]).drew).cell 1))
    | (go_at_call 10; refine (HC.out _ (HM.out _ ?_)).mono ?_; (first | exact (((Mod.refl no w).alloc _)).and_then m2 | exact (((Mod.refl no w).alloc _).drew).and_then m2); rintro e w3 ⟨rfl, m3⟩))
  all_goals (
    go_wp2_with fail
    go_ret
    refine ⟨?_, ((((Mod.refl no w).alloc _).drew).and_then m2).and_then m3⟩
    rw [show (97 :: 116 :: 32 :: (A ++ [58, 32] ++ C)) = (([97, 116, 32] ++ A) ++ [58, 32]) ++ C by simp, ← sv_append, ← sv_append, ← sv_append]; rfl)
end Go.Proofs.YtdmfipkmalhngaaDoor.FT
