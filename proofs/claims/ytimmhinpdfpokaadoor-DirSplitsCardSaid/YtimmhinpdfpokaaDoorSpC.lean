/- The document's Named. -/
import Derived.Test.YtimmhinpdfpokaaDoorSpB
import Derived.Laws.Strings
namespace Go.Proofs.YtimmhinpdfpokaaDoor.SP
open Go.RowKit Mem
set_option linter.unusedVariables false
set_option linter.unusedSimpArgs false

/-- May an item have this name? -/
def plainB (b : UInt8) : Bool := !(decide (b.toNat = 47) || decide (b.toNat = 0))
def named (l : List UInt8) : Bool := !(decide (l.length < 1) || decide (64 < l.length) || decide (l = [46]) || decide (l = [46, 46])) && (l.all plainB && letters l)
theorem sv_inj {l m : List UInt8} (h : sv l = sv m) : l = m := by
  have := congrArg (fun b : ByteArray => b.data.toList) h
  simpa [sv] using this
theorem sv_list (l : List UInt8) : (sv l).toList = l := by rw [ByteArray.toList_eq]; simp [sv]
def NI (w : World) (l : List UInt8) (v3 : Value) (wr : World) : Prop := ∃ i : Nat, i ≤ l.length ∧ v3 = .int .i64 (i : Int) ∧ (l.take i).all plainB = true ∧ wr = w
theorem named_short {l : List UInt8} (h : l.length < 1 ∨ 64 < l.length ∨ l = [46] ∨ l = [46, 46]) : named l = false := by
  unfold named
  rcases h with h | h | h | h
  · simp [h]
  · simp [h]
  · subst h; simp
  · subst h; simp
theorem named_long {l : List UInt8} (h1 : ¬ l.length < 1) (h2 : ¬ 64 < l.length) (h3 : l ≠ [46]) (h4 : l ≠ [46, 46]) : named l = (l.all plainB && letters l) := by
  unfold named
  simp only [h1, h2, h3, h4, decide_false, Bool.or_false, Bool.not_false, Bool.true_and]
theorem named_bad {l : List UInt8} {i : Nat} (hi : i < l.length) (hb : plainB l[i] = false) : named l = false := by
  have : l.all plainB = false := by
    rw [List.all_eq_false]
    exact ⟨l[i], List.getElem_mem _, by rw [hb]; simp⟩
  unfold named
  rw [this]; simp
set_option maxRecDepth 100000 in
set_option maxHeartbeats 4000000 in
theorem named_b {w : World} {l : List UInt8} {b : Bool} (hb : named l = b) (hl : l.length ≤ 1048576) : Calls Tryd.prog 9 #[.string (sv l)] w fun e w' => e = .returned (.bool b) ∧ w = w' := by
  have HL := Lib.hid hl
  have HB := Lib.hid hb
  have hsz := sv_size l
  clear hl hb
  by_cases h1 : l.length < 1
  · have HE := Lib.hid (named_short (l := l) (.inl h1))
    have g1 : (l.length : Int) < 1 := by omega
    go_enter Tryd.func9, Tryd.ntmps9
    go_wp2_with fail
    go_ret
    exact ⟨by rw [← HB.out, HE.out]; rfl, rfl⟩
  have g1 : ¬ (l.length : Int) < 1 := by omega
  by_cases h2 : 64 < l.length
  · have HE := Lib.hid (named_short (l := l) (.inr (.inl h2)))
    have g2 : (64 : Int) < (l.length : Int) := by omega
    go_enter Tryd.func9, Tryd.ntmps9
    go_wp2_with fail
    go_ret
    exact ⟨by rw [← HB.out, HE.out]; rfl, rfl⟩
  have g2 : ¬ (64 : Int) < (l.length : Int) := by omega
  by_cases h3 : l = [46]
  · have HE := Lib.hid (named_short (l := l) (.inr (.inr (.inl h3))))
    have g3 : (sv l).toList = [46] := by rw [sv_list]; exact h3
    clear h3
    go_enter Tryd.func9, Tryd.ntmps9
    go_wp2_with fail
    go_ret
    exact ⟨by rw [← HB.out, HE.out]; rfl, rfl⟩
  have g3 : ¬ (sv l).toList = [46] := by rw [sv_list]; exact h3
  have g5 : ((sv l).toList == [46]) = false := by rw [sv_list]; simpa using h3
  by_cases h4 : l = [46, 46]
  · have HE := Lib.hid (named_short (l := l) (.inr (.inr (.inr h4))))
    have g4 : (sv l).toList = [46, 46] := by rw [sv_list]; exact h4
    clear h4
    go_enter Tryd.func9, Tryd.ntmps9
    go_wp2_with fail
    go_ret
    exact ⟨by rw [← HB.out, HE.out]; rfl, rfl⟩
  have g4 : ¬ (sv l).toList = [46, 46] := by rw [sv_list]; exact h4
  have g6 : ((sv l).toList == [46, 46]) = false := by rw [sv_list]; simpa using h4
  have HN := Lib.hid (named_long h1 h2 h3 h4)
  clear h3 h4
  go_enter Tryd.func9, Tryd.ntmps9
  go_wp2_with fail
  go_loopw [3] (fun (v3 : Value) (wr : World) => NI w l v3 wr) (fun i _ => l.length - (intOf i).toNat)
  case atStart => exact ⟨0, Nat.zero_le _, rfl, rfl, rfl⟩
  case round =>
    obtain ⟨i, hi, rfl, hall, rfl⟩ := hrel
    have hll := HL.out
    have HA := Lib.hid hall
    clear hall
    by_cases hil : i < l.length
    · have hj1 : (i : Int) < (l.length : Int) := by omega
      have hj0 : (0 : Int) ≤ (i : Int) := by omega
      have hsk : i < (sv l).size := by rw [hsz]; exact hil
      have hx : (sv l)[i]'hsk = l[i] := rfl
      by_cases hp : plainB l[i] = true
      · have HP := Lib.hid hp
        have q1 : ¬ (((((sv l)[i]'hsk).toNat : Nat) : Int) = 47) := by
          rw [hx]; intro h
          have : (l[i]).toNat = 47 := by omega
          have : plainB l[i] = false := by unfold plainB; rw [this]; rfl
          rw [hp] at this; cases this
        have q2 : ¬ (((((sv l)[i]'hsk).toNat : Nat) : Int) = 0) := by
          rw [hx]; intro h
          have : (l[i]).toNat = 0 := by omega
          have : plainB l[i] = false := by unfold plainB; rw [this]; rfl
          rw [hp] at this; cases this
        have q3 : ((((((sv l)[i]'hsk).toNat : Nat) : Int)) == 47) = false := by simpa using q1
        have q4 : ((((((sv l)[i]'hsk).toNat : Nat) : Int)) == 0) = false := by simpa using q2
        clear hp hx
        go_wp2_with fail
        refine ⟨⟨i + 1, by omega, by go_num, ?_, rfl⟩, by simp only [intOf]; omega⟩
        rw [List.take_succ_eq_append_getElem hil, List.all_append, HA.out]
        simp
        exact HP.out
      · have hp' : plainB l[i] = false := by simpa using hp
        have HE := Lib.hid (named_bad hil hp')
        by_cases q1 : (((((sv l)[i]'hsk).toNat : Nat) : Int) = 47)
        · clear hp hp' hx
          go_wp2_with fail
          go_ret
          exact ⟨by rw [← HB.out, HE.out]; rfl, rfl⟩
        · have q2 : (((((sv l)[i]'hsk).toNat : Nat) : Int) = 0) := by
            rw [hx] at q1 ⊢
            unfold plainB at hp'
            have h47 : ¬ (l[i]).toNat = 47 := by omega
            have : (l[i]).toNat = 0 := by simp [h47] at hp'; omega
            omega
          clear hp hp' hx
          go_wp2_with fail
          go_ret
          exact ⟨by rw [← HB.out, HE.out]; rfl, rfl⟩
    · obtain rfl : i = l.length := by omega
      have hj1 : ¬ (l.length : Int) < (l.length : Int) := by omega
      clear hi hil
      have e2 : letters l = b := by
        rw [← HB.out, HN.out]
        have := HA.out
        rw [List.take_length] at this
        rw [this]; rfl
      have HE := Lib.hid e2
      clear e2
      go_wp2_with (first | (go_at_call 12; refine (letters_b HE.out HL.out).mono ?_; rintro e w2 ⟨rfl, rfl⟩))
      go_ret
      exact ⟨rfl, rfl⟩
theorem named_r {w : World} {l : List UInt8} (hl : l.length ≤ 1048576) : Calls Tryd.prog 9 #[.string (sv l)] w fun e w' => e = .returned (.bool (named l)) ∧ w = w' := named_b rfl hl
end Go.Proofs.YtimmhinpdfpokaaDoor.SP
