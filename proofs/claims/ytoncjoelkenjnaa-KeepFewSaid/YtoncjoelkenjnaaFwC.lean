/- KeepFew: count and larger. -/
import Derived.Test.YtoncjoelkenjnaaPsA
import Derived.Test.YtoncjoelkenjnaaFwB
namespace Go.Proofs.Ytoncjoelkenjnaa.PL
open Go.RowKit Mem Go.Proofs.Ytoncjoelkenjnaa.Days Go.Proofs.Ytoncjoelkenjnaa.SS
set_option linter.unusedVariables false
set_option linter.unusedSimpArgs false

/-- How many have one of the bits. -/
def cnt (ws : Nat → Int) (bit : Int) (n : Nat) : Nat := (List.range n).countP fun i => bits .and .u8 (ws i) bit != 0
theorem cnt_le (ws : Nat → Int) (bit : Int) (n : Nat) : cnt ws bit n ≤ n := by
  unfold cnt
  have := List.countP_le_length (p := fun i => bits .and .u8 (ws i) bit != 0) (l := List.range n)
  simpa using this
theorem cnt_succ (ws : Nat → Int) (bit : Int) (n : Nat) : cnt ws bit (n + 1) = cnt ws bit n + if (bits .and .u8 (ws n) bit != 0) = true then 1 else 0 := by
  unfold cnt
  rw [List.range_succ, List.countP_append, List.countP_cons, List.countP_nil, Nat.zero_add]
def CtI (w : World) (ws : Nat → Int) (bit : Int) (n : Nat) (v5 v6 : Value) (wr : World) : Prop := ∃ i : Nat, i ≤ n ∧ v5 = .int .i64 (cnt ws bit i : Int) ∧ v6 = .int .i64 (i : Int) ∧ wr = w
set_option maxRecDepth 100000 in
set_option maxHeartbeats 1000000 in
theorem count_any {w : World} {A : Option Addr} {n c : Nat} {nm : Nat → ByteArray} {ws : Nat → Int} {bit : Int} (hA : KV w A n nm ws) (hn : n ≤ 1048600) :
    Calls Try.prog 23 #[.slice A n c, .int .u8 bit] w fun e w' => e = .returned (.int .i64 (cnt ws bit n : Int)) ∧ w' = w := by
  have HA := Lib.hid hA
  have HN := Lib.hid hn
  clear hA hn
  go_enter Try.func23, Try.ntmps23
  go_wp2_with fail
  go_loopw [5, 6] (CtI w ws bit n) (fun _ v _ => n - (intOf v).toNat)
  case atStart => exact ⟨0, Nat.zero_le _, rfl, rfl, rfl⟩
  case round =>
    obtain ⟨i, hi, rfl, rfl, rfl⟩ := hrel
    by_cases hlt : i < n
    · obtain ⟨g, rfl, ka⟩ := HA.out (by omega)
      have a1 := ka.why hlt
      have g1 : (i : Int) < (n : Int) := by omega
      have g2 : ¬ (i : Int) < 0 := by omega
      have hcs := cnt_succ ws bit i
      have hcl := cnt_le ws bit i
      obtain ⟨k, hk⟩ : ∃ k, k = cnt ws bit i := ⟨_, rfl⟩
      rw [← hk] at hcs hcl ⊢
      obtain ⟨x, hx⟩ : ∃ x, x = ws i := ⟨_, rfl⟩
      rw [← hx] at a1 hcs
      have HW := Lib.hid (show wrap64 ((i : Int) + 1) = (i : Int) + 1 ∧ wrap64 ((k : Int) + 1) = (k : Int) + 1 from ⟨IntWalk.wrap64_in _ (by have := HN.out; omega), IntWalk.wrap64_in _ (by have := HN.out; omega)⟩)
      have HK := Lib.hid hlt
      clear hi hlt ka hk hx hcl
      by_cases hb : (bits .and .u8 x bit != 0) = true
      · rw [if_pos hb] at hcs
        have HC := Lib.hid hcs
        clear hcs
        have w1 := HW.out.1
        have w2 := HW.out.2
        go_wp2_with fail
        go_roundw
        case rel => exact ⟨i + 1, HK.out, by rw [HC.out]; go_num, by go_num, rfl⟩
        case measure =>
          have := HK.out
          try rw [w1]
          clear w1 w2
          show n - ((i : Int) + 1).toNat < n - ((i : Int)).toNat
          omega
      · have hb2 : (bits .and .u8 x bit != 0) = false := by simpa using hb
        rw [if_neg hb] at hcs
        have HC := Lib.hid hcs
        clear hcs hb
        have w1 := HW.out.1
        go_wp2_with fail
        go_roundw
        case rel => exact ⟨i + 1, HK.out, by rw [HC.out]; rfl, by go_num, rfl⟩
        case measure =>
          have := HK.out
          try rw [w1]
          clear w1
          show n - ((i : Int) + 1).toNat < n - ((i : Int)).toNat
          omega
    · obtain rfl : i = n := by omega
      have g1 : ¬ (i : Int) < (i : Int) := by omega
      clear hi hlt
      go_wp2_with fail
      go_ret
      exact ⟨rfl, rfl⟩
def lg (x y : Int) : Int := if y < x then x else y
theorem larger_any (x y : Int) (w : World) : Calls Try.prog 24 #[.int .i16 x, .int .i16 y] w fun e w' => e = .returned (.int .i16 (lg x y)) ∧ w' = w := by
  by_cases h : y < x
  · have e : lg x y = x := if_pos h
    rw [e]
    clear e
    go_enter Try.func24, Try.ntmps24
    go_wp2_with fail
    go_ret
    exact ⟨rfl, rfl⟩
  · have e : lg x y = y := if_neg h
    rw [e]
    clear e
    go_enter Try.func24, Try.ntmps24
    go_wp2_with fail
    go_ret
    exact ⟨rfl, rfl⟩
end Go.Proofs.Ytoncjoelkenjnaa.PL
