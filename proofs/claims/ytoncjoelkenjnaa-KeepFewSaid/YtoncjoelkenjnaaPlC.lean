/- keep.Plan: right; whether a time lies outside; the parts. Printed by wip/tools/planc.py. -/
import Derived.Test.YtoncjoelkenjnaaPlB
namespace Go.Proofs.Ytoncjoelkenjnaa.PL
open Go.RowKit Mem Go.Proofs.Ytoncjoelkenjnaa.Days Go.Proofs.Ytoncjoelkenjnaa.SS
set_option linter.unusedVariables false
set_option linter.unusedSimpArgs false

/-- A rule's value. -/
def rv (l h d k m y v : Int) : Value := .agg #[.int .i16 l, .int .i16 h, .int .i16 d, .int .i16 k, .int .i16 m, .int .i16 y, .int .i64 v]
def rightB (l h d k m y v : Int) : Bool := decide (0 ≤ l ∧ 0 ≤ h ∧ 0 ≤ d ∧ 0 ≤ k ∧ 0 ≤ m ∧ 0 ≤ y ∧ 0 ≤ v)
set_option maxHeartbeats 1000000 in
theorem right_any (l h d k m y v : Int) (w : World) : Calls Try.prog 35 #[rv l h d k m y v] w fun e w' => e = .returned (.bool (rightB l h d k m y v)) ∧ Below w.heap.size w w' := by
  unfold rv
  by_cases hl : 0 ≤ l
  · skip
    by_cases hh : 0 ≤ h
    · skip
      by_cases hd : 0 ≤ d
      · skip
        by_cases hk : 0 ≤ k
        · skip
          by_cases hm : 0 ≤ m
          · skip
            by_cases hy : 0 ≤ y
            · skip
              by_cases hv : 0 ≤ v
              · have hb : rightB l h d k m y v = true := decide_eq_true (by omega)
                rw [hb]
                clear hb
                go_enter Try.func35, Try.ntmps35
                go_wp2_with fail
                go_ret
                exact ⟨rfl, (Below.refl _ _).alloc (Nat.le_refl _) _⟩
              · have hb : rightB l h d k m y v = false := decide_eq_false (by omega)
                rw [hb]
                clear hb
                go_enter Try.func35, Try.ntmps35
                go_wp2_with fail
                go_ret
                exact ⟨rfl, (Below.refl _ _).alloc (Nat.le_refl _) _⟩
            · have hb : rightB l h d k m y v = false := decide_eq_false (by omega)
              rw [hb]
              clear hb
              go_enter Try.func35, Try.ntmps35
              go_wp2_with fail
              go_ret
              exact ⟨rfl, (Below.refl _ _).alloc (Nat.le_refl _) _⟩
          · have hb : rightB l h d k m y v = false := decide_eq_false (by omega)
            rw [hb]
            clear hb
            go_enter Try.func35, Try.ntmps35
            go_wp2_with fail
            go_ret
            exact ⟨rfl, (Below.refl _ _).alloc (Nat.le_refl _) _⟩
        · have hb : rightB l h d k m y v = false := decide_eq_false (by omega)
          rw [hb]
          clear hb
          go_enter Try.func35, Try.ntmps35
          go_wp2_with fail
          go_ret
          exact ⟨rfl, (Below.refl _ _).alloc (Nat.le_refl _) _⟩
      · have hb : rightB l h d k m y v = false := decide_eq_false (by omega)
        rw [hb]
        clear hb
        go_enter Try.func35, Try.ntmps35
        go_wp2_with fail
        go_ret
        exact ⟨rfl, (Below.refl _ _).alloc (Nat.le_refl _) _⟩
    · have hb : rightB l h d k m y v = false := decide_eq_false (by omega)
      rw [hb]
      clear hb
      go_enter Try.func35, Try.ntmps35
      go_wp2_with fail
      go_ret
      exact ⟨rfl, (Below.refl _ _).alloc (Nat.le_refl _) _⟩
  · have hb : rightB l h d k m y v = false := decide_eq_false (by omega)
    rw [hb]
    clear hb
    go_enter Try.func35, Try.ntmps35
    go_wp2_with fail
    go_ret
    exact ⟨rfl, (Below.refl _ _).alloc (Nat.le_refl _) _⟩
set_option maxHeartbeats 1000000 in
theorem rright_any (l h d k m y v : Int) (w : World) : Calls Try.prog 41 #[rv l h d k m y v] w fun e w' => e = .returned (.bool (rightB l h d k m y v)) ∧ Below w.heap.size w w' := by
  unfold rv
  by_cases hl : 0 ≤ l
  · skip
    by_cases hh : 0 ≤ h
    · skip
      by_cases hd : 0 ≤ d
      · skip
        by_cases hk : 0 ≤ k
        · skip
          by_cases hm : 0 ≤ m
          · skip
            by_cases hy : 0 ≤ y
            · skip
              by_cases hv : 0 ≤ v
              · have hb : rightB l h d k m y v = true := decide_eq_true (by omega)
                rw [hb]
                clear hb
                go_enter Try.func41, Try.ntmps41
                go_wp2_with fail
                go_ret
                exact ⟨rfl, (Below.refl _ _).alloc (Nat.le_refl _) _⟩
              · have hb : rightB l h d k m y v = false := decide_eq_false (by omega)
                rw [hb]
                clear hb
                go_enter Try.func41, Try.ntmps41
                go_wp2_with fail
                go_ret
                exact ⟨rfl, (Below.refl _ _).alloc (Nat.le_refl _) _⟩
            · have hb : rightB l h d k m y v = false := decide_eq_false (by omega)
              rw [hb]
              clear hb
              go_enter Try.func41, Try.ntmps41
              go_wp2_with fail
              go_ret
              exact ⟨rfl, (Below.refl _ _).alloc (Nat.le_refl _) _⟩
          · have hb : rightB l h d k m y v = false := decide_eq_false (by omega)
            rw [hb]
            clear hb
            go_enter Try.func41, Try.ntmps41
            go_wp2_with fail
            go_ret
            exact ⟨rfl, (Below.refl _ _).alloc (Nat.le_refl _) _⟩
        · have hb : rightB l h d k m y v = false := decide_eq_false (by omega)
          rw [hb]
          clear hb
          go_enter Try.func41, Try.ntmps41
          go_wp2_with fail
          go_ret
          exact ⟨rfl, (Below.refl _ _).alloc (Nat.le_refl _) _⟩
      · have hb : rightB l h d k m y v = false := decide_eq_false (by omega)
        rw [hb]
        clear hb
        go_enter Try.func41, Try.ntmps41
        go_wp2_with fail
        go_ret
        exact ⟨rfl, (Below.refl _ _).alloc (Nat.le_refl _) _⟩
    · have hb : rightB l h d k m y v = false := decide_eq_false (by omega)
      rw [hb]
      clear hb
      go_enter Try.func41, Try.ntmps41
      go_wp2_with fail
      go_ret
      exact ⟨rfl, (Below.refl _ _).alloc (Nat.le_refl _) _⟩
  · have hb : rightB l h d k m y v = false := decide_eq_false (by omega)
    rw [hb]
    clear hb
    go_enter Try.func41, Try.ntmps41
    go_wp2_with fail
    go_ret
    exact ⟨rfl, (Below.refl _ _).alloc (Nat.le_refl _) _⟩
theorem out_any (s : ByteArray) (t : Int) (w : World) : Calls Try.prog 37 #[.agg #[.string s, .int .i64 t]] w fun e w' => e = .returned (.bool (!insideB t)) ∧ Below w.heap.size w w' := by
  go_enter Try.func37, Try.ntmps37
  go_wp2_with (go_at_call 32; refine (inside_any _ _).mono ?_; rintro e w' ⟨rfl, rfl⟩)
  go_ret
  exact ⟨rfl, (Below.refl _ _).alloc (Nat.le_refl _) _⟩
/-- All times lie inside. -/
def allIn (n : Nat) (tm : Nat → Int) : Bool := (List.range n).all fun i => insideB (tm i)
theorem allIn_iff {n : Nat} {tm : Nat → Int} : allIn n tm = true ↔ ∀ i, i < n → insideB (tm i) = true := by simp [allIn, List.all_eq_true]
def IxI (w : World) (n : Nat) (tm : Nat → Int) (v : Value) (wr : World) : Prop := ∃ k : Nat, k ≤ n ∧ v = .int .i64 (k : Int) ∧ (∀ i, i < k → insideB (tm i) = true) ∧ Mod no w wr
set_option maxRecDepth 100000 in
set_option maxHeartbeats 1000000 in
theorem index_any {w : World} {A : Option Addr} {b o n c : Nat} {nm : Nat → ByteArray} {tm : Nat → Int} (h : ShA w A b o n nm tm) (hn : n ≤ 1048600) :
    Calls Try.prog 46 #[.slice A n c, .func (.func 37) #[] #[]] w fun e w' => ∃ r : Int, e = .returned (.int .i64 r) ∧ (decide (0 ≤ r) = !allIn n tm) ∧ Mod no w w' := by
  have H := Lib.hid h
  have HN := Lib.hid hn
  clear h hn
  go_enter Try.func46, Try.ntmps46
  go_wp2_with fail
  go_loopw [8] (IxI w n tm) (fun v _ => n - (intOf v).toNat)
  case atStart => exact ⟨0, Nat.zero_le _, rfl, fun i hi => by omega, Mod.refl _ _⟩
  case round =>
    obtain ⟨k, hk, rfl, hin, hM⟩ := hrel
    have HM := Lib.hid hM
    have HI := Lib.hid hin
    by_cases hlt : k < n
    · obtain rfl := H.out.at_ (by omega)
      have hs := H.out.mod hM (fun _ c => c)
      have c0 := hs.name k hlt
      have c1 := hs.time k hlt
      have g1 : (k : Int) < (n : Int) := by omega
      have g2 : ¬ (k : Int) < 0 := by omega
      have w1 : wrap64 ((k : Int) + 1) = (k : Int) + 1 := IntWalk.wrap64_in _ (by have := HN.out; omega)
      have HK := Lib.hid hlt
      obtain ⟨t, ht⟩ : ∃ t, t = tm k := ⟨_, rfl⟩
      rw [← ht] at c1
      have HT := Lib.hid ht
      clear hM hin hk hlt hs ht
      by_cases hi : insideB t = true
      · go_wp2_with (go_at_call 37; refine (out_any _ _ _).mono ?_; rintro e w9 ⟨rfl, hb9⟩; rw [hi])
        go_roundw
        case rel => exact ⟨k + 1, HK.out, by go_num, fun i hi' => by
          rcases Nat.lt_or_ge i k with c | c
          · exact HI.out i c
          · obtain rfl : i = k := by omega
            rw [← HT.out]; exact hi, HM.out.and_then (Mod.of_new hb9)⟩
        case measure =>
          have := HK.out
          try rw [w1]
          show n - ((k : Int) + 1).toNat < n - ((k : Int)).toNat
          omega
      · have hf : insideB t = false := by simpa using hi
        go_wp2_with (go_at_call 37; refine (out_any _ _ _).mono ?_; rintro e w9 ⟨rfl, hb9⟩; rw [hf])
        go_ret
        refine ⟨_, rfl, ?_, HM.out.and_then (Mod.of_new hb9)⟩
        have ha : allIn n tm = false := by
          cases hc : allIn n tm with
          | false => rfl
          | true => exact absurd (allIn_iff.1 hc k HK.out) (by rw [← HT.out]; exact hi)
        rw [ha]
        simp
    · obtain rfl : k = n := by omega
      have g1 : ¬ (k : Int) < (k : Int) := by omega
      clear hM hin hk hlt
      go_wp2_with fail
      go_ret
      refine ⟨-1, rfl, ?_, HM.out⟩
      rw [allIn_iff.2 HI.out]
      rfl
theorem contains_any {w : World} {A : Option Addr} {b o n c : Nat} {nm : Nat → ByteArray} {tm : Nat → Int} (h : ShA w A b o n nm tm) (hn : n ≤ 1048600) :
    Calls Try.prog 36 #[.slice A n c, .func (.func 37) #[] #[]] w fun e w' => e = .returned (.bool (!allIn n tm)) ∧ Mod no w w' := by
  have HC := Lib.hid (index_any (c := c) h hn)
  clear h hn
  go_enter Try.func36, Try.ntmps36
  go_wp2_with (go_at_call 46; refine HC.out.mono ?_; rintro e w9 ⟨r, rfl, hr, hM⟩)
  go_ret
  exact ⟨by rw [← hr]; first | rfl | simp, hM⟩
end Go.Proofs.Ytoncjoelkenjnaa.PL
