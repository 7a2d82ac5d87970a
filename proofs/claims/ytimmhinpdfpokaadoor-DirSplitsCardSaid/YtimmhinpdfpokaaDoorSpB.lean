/- The document's Letters. -/
import Derived.Test.YtimmhinpdfpokaaDoorSpA
import Derived.OwnWalk
namespace Go.Proofs.YtimmhinpdfpokaaDoor.SP
open Go.RowKit Mem
set_option linter.unusedVariables false
set_option linter.unusedSimpArgs false

/-- A string of these bytes. -/
def sv (l : List UInt8) : ByteArray := ⟨l.toArray⟩
theorem sv_size (l : List UInt8) : (sv l).size = l.length := by simp [sv, ByteArray.size]
/-- Its byte at a place. -/
theorem sv_index {l : List UInt8} {i : Nat} (hi : i < l.length) (w : World) : (Instr.index 9 (.string (sv l)) (.int .i64 (i : Int))).run Tryd.prog w = .ok (.int .u8 ((l[i]).toNat : Int)) w := by
  rw [run_index_string (P := Tryd.prog) w 9 (sv l) .i64 (i : Int) Tryd.underlying9]
  rw [dif_pos ⟨by omega, by rw [sv_size]; omega⟩]
  rfl
theorem op_yield {a : Act} {o : Oper} {w w' : World} {v : Value} {K : Act → World → Prop} {Q : Exit → Act → World → Prop} (h : (execOp a.eval o).run Tryd.prog w = .ok (.value v) w') (hK : K (a.put o.dst v) w') : Oper.wp Tryd.prog o a w K Q := by
  unfold Oper.wp
  rw [h]
  exact hK
theorem wpList_idx {ops : Array Oper} {rest : List Oper} {o : Oper} {a : Act} {w : World} {Q : Exit → Act → World → Prop} (hgd : Region.wanted o (yielded ops a.tmps) = true) (x y : Operand) (ho : o.op = .index 9 x y) (l : List UInt8) (i : Nat) (hx : a.eval x = .string (sv l)) (hy : a.eval y = .int .i64 (i : Int)) (hi : i < l.length)
    (h : wpList Tryd.prog ops Q rest (a.put o.dst (.int .u8 ((l[i]).toNat : Int))) w) : wpList Tryd.prog ops Q (o :: rest) a w :=
  wpList_step fun K hK => by
    rw [if_pos hgd]
    refine op_yield (w' := w) (v := .int .u8 ((l[i]).toNat : Int)) ?_ (hK _ _ h)
    unfold execOp
    simp only [ho, hx, hy, Sem.run_bind, sv_index hi, Result.andThen_ok, Sem.run_pure]
theorem letters_step {l : List UInt8} (hne : l ≠ []) : letters l = match letterAt l with | none => false | some k => letters (l.drop k) := by
  have hl : 0 < l.length := List.length_pos_iff.2 hne
  obtain ⟨f, hf⟩ : ∃ f, l.length = f + 1 := ⟨l.length - 1, by omega⟩
  unfold letters
  rw [hf]
  conv => lhs; unfold lettersGo
  rw [if_neg hne]
  cases hk : letterAt l with
  | none => rfl
  | some k =>
    have hp := letterAt_pos hk
    simp only
    rw [lettersGo_valid f _ (by rw [List.length_drop]; omega)]
    exact (lettersGo_valid _ _ (Nat.le_refl _)).symm
theorem moreN_le {c n : Nat} (h : moreN c = some n) : n ≤ 3 := by
  unfold moreN at h
  split at h
  · injection h with h; omega
  · split at h
    · injection h with h; omega
    · split at h
      · injection h with h; omega
      · split at h
        · injection h with h; omega
        · cases h
/-- A byte out of its bounds: no letter. -/
theorem letters_bad {l : List UInt8} {i c n k : Nat} (h1 : letters l = letters (l.drop i)) (hne : l.drop i ≠ []) (hc : ((l.drop i).getD 0 0).toNat = c) (hm : moreN c = some n) (hk1 : 1 ≤ k) (hk2 : k ≤ n) (hb : okAt (l.drop i) c k = false) : letters l = false := by
  rw [h1, letters_step hne]
  have : letterAt (l.drop i) = none := by
    unfold letterAt
    rw [hc, hm]
    simp only
    split
    · rfl
    · rw [if_neg]
      intro hall
      rw [List.all_eq_true] at hall
      have := hall (k - 1) (List.mem_range.2 (by omega))
      rw [show k - 1 + 1 = k by omega, hb] at this
      cases this
  rw [this]
/-- All in their bounds: one letter on. -/
theorem letters_good {l : List UInt8} {i c n : Nat} (h1 : letters l = letters (l.drop i)) (hne : l.drop i ≠ []) (hc : ((l.drop i).getD 0 0).toNat = c) (hm : moreN c = some n) (hin : i + n < l.length) (hok : ∀ j, 1 ≤ j → j < n + 1 → okAt (l.drop i) c j = true) : letters l = letters (l.drop (i + n + 1)) := by
  rw [h1, letters_step hne]
  have : letterAt (l.drop i) = some (n + 1) := by
    unfold letterAt
    rw [hc, hm]
    simp only
    rw [if_neg (by rw [List.length_drop]; omega), if_pos]
    rw [List.all_eq_true]
    intro x hx
    exact hok _ (by omega) (by have := List.mem_range.1 hx; omega)
  rw [this]
  simp only
  rw [List.drop_drop]
  rfl
theorem okAt_at {l : List UInt8} {i c k d : Nat} (h : i + k < l.length) (hd : d = (l[i + k]).toNat) : okAt (l.drop i) c k = if k = 1 then decide (lowN c ≤ d) && decide (d ≤ highN c) else decide (128 ≤ d) && decide (d ≤ 191) := by
  unfold okAt
  have : (l.drop i).getD k 0 = l[i + k] := by
    rw [List.getD_eq_getElem?_getD, List.getElem?_drop, List.getElem?_eq_getElem h]
    rfl
  rw [this, hd]
def OI (w : World) (l : List UInt8) (v3 : Value) (wr : World) : Prop := ∃ i : Nat, i ≤ l.length ∧ v3 = .int .i64 (i : Int) ∧ letters l = letters (l.drop i) ∧ wr = w
def II (w : World) (D : List UInt8) (c n : Nat) (v6 : Value) (wr : World) : Prop := ∃ k : Nat, 1 ≤ k ∧ k ≤ n + 1 ∧ v6 = .int .i64 (k : Int) ∧ (∀ j, 1 ≤ j → j < k → okAt D c j = true) ∧ wr = w
set_option maxRecDepth 100000 in
set_option maxHeartbeats 4000000 in
theorem letters_b {w : World} {l : List UInt8} {b : Bool} (hb : letters l = b) (hl : l.length ≤ 1048576) : Calls Tryd.prog 12 #[.string (sv l)] w fun e w' => e = .returned (.bool b) ∧ w = w' := by
  have HL := Lib.hid hl
  have HB := Lib.hid hb
  have hsz := sv_size l
  clear hl hb
  go_enter Tryd.func12, Tryd.ntmps12
  go_wp2_with fail
  go_loopw [3, 4, 5, 6, 7, 8] (fun (v3 v4 v5 v6 v7 v8 : Value) (wr : World) => OI w l v3 wr) (fun i _ _ _ _ _ _ => l.length - (intOf i).toNat)
  case atStart => exact ⟨0, Nat.zero_le _, rfl, rfl, rfl⟩
  case round =>
    obtain ⟨i, hi, rfl, hlt, rfl⟩ := hrel
    have hll := HL.out
    by_cases hil : i < l.length
    · have hj1 : (i : Int) < (l.length : Int) := by omega
      have hj0 : (0 : Int) ≤ (i : Int) := by omega
      obtain ⟨c, hc⟩ : ∃ c, c = (l[i]).toNat := ⟨_, rfl⟩
      have hcb : c < 256 := by rw [hc]; exact (l[i]).toNat_lt
      have hD : l.drop i ≠ [] := by simp; omega
      have hDc : ((l.drop i).getD 0 0).toNat = c := by rw [hc]; simp [List.getD, List.getElem?_eq_getElem hil]
      have HI := Lib.hid (And.intro hlt (And.intro hD (And.intro hDc (And.intro hcb (show i < l.length from hil)))))
      have HC := Lib.hid hc
      clear hi hlt hcb hD hDc hc
      go_wp2_with (first | (refine wpList_idx rfl (.tmp 15) (.tmp 16) rfl l i rfl rfl hil ?_))
      rw [← HC.out]
      refine (more_r HI.out.2.2.2.1).mono ?_
      rintro e w2 ⟨rfl, rfl⟩
      cases hm : moreN c with
      | none =>
        have e1 : moreI c = -1 := by unfold moreI; rw [hm]
        have e2 : letters l = false := by
          rw [HI.out.1, letters_step HI.out.2.1]
          have : letterAt (l.drop i) = none := by unfold letterAt; rw [HI.out.2.2.1, hm]
          rw [this]
        have HE := Lib.hid e2
        rw [e1]
        clear hm e1 e2
        go_wp2_with fail
        go_ret
        exact ⟨by rw [← HB.out, HE.out]; rfl, rfl⟩
      | some n =>
        have e1 : moreI c = (n : Int) := by unfold moreI; rw [hm]
        have hn3 : n ≤ 3 := moreN_le hm
        rw [e1]
        clear e1
        have HM := Lib.hid hm
        clear hm
        have g0 : ¬ (n : Int) < 0 := by omega
        by_cases hin : i + n < l.length
        · have g1 : ¬ (i : Int) + (n : Int) ≥ (l.length : Int) := by omega
          go_wp2_with fail
          go_loopw [6, 7, 8] (fun (v6 v7 v8 : Value) (wr2 : World) => II wr (l.drop i) c n v6 wr2) (fun v6 _ _ _ => n + 1 - (intOf v6).toNat)
          case atStart => exact ⟨1, Nat.le_refl _, by omega, rfl, fun j h1 h2 => by omega, rfl⟩
          case round =>
            obtain ⟨k, hk1, hk2, rfl, hok, rfl⟩ := hrel
            have HOK := Lib.hid hok
            clear hok
            by_cases hkn : k ≤ n
            · have c1 : (k : Int) ≤ (n : Int) := by omega
              have hikl : i + k < l.length := by omega
              have hj2 : (i : Int) + (k : Int) < (l.length : Int) := by omega
              have hj3 : (0 : Int) ≤ (i : Int) + (k : Int) := by omega
              have hsk : i + k < (sv l).size := by rw [hsz]; exact hikl
              obtain ⟨d, hd⟩ : ∃ d, d = ((sv l)[i + k]'hsk).toNat := ⟨_, rfl⟩
              have HDD := Lib.hid hd
              clear hd
              by_cases hk : k = 1
              · subst hk
                by_cases hd1 : d < lowN c
                · have q1 : ((((sv l)[i + 1]'hsk).toNat : Nat) : Int) < (lowN c : Int) := by rw [← HDD.out]; omega
                  have hb : okAt (l.drop i) c 1 = false := by rw [okAt_at hikl HDD.out, if_pos rfl]; simp; omega
                  have HE := Lib.hid (letters_bad HI.out.1 HI.out.2.1 HI.out.2.2.1 HM.out hk1 hkn hb)
                  clear hb hd1
                  go_wp2_with (first | (go_at_call 18; refine lowest_r.mono ?_; rintro e w2 ⟨rfl, rfl⟩) | (go_at_call 19; refine highest_r.mono ?_; rintro e w2 ⟨rfl, rfl⟩) | fail)
                  go_ret
                  exact ⟨by rw [← HB.out, HE.out]; rfl, rfl⟩
                · have q1 : ¬ ((((sv l)[i + 1]'hsk).toNat : Nat) : Int) < (lowN c : Int) := by rw [← HDD.out]; omega
                  by_cases hd2 : highN c < d
                  · have q2 : (highN c : Int) < ((((sv l)[i + 1]'hsk).toNat : Nat) : Int) := by rw [← HDD.out]; omega
                    have hb : okAt (l.drop i) c 1 = false := by rw [okAt_at hikl HDD.out, if_pos rfl]; simp; omega
                    have HE := Lib.hid (letters_bad HI.out.1 HI.out.2.1 HI.out.2.2.1 HM.out hk1 hkn hb)
                    clear hb hd1 hd2
                    go_wp2_with (first | (go_at_call 18; refine lowest_r.mono ?_; rintro e w2 ⟨rfl, rfl⟩) | (go_at_call 19; refine highest_r.mono ?_; rintro e w2 ⟨rfl, rfl⟩) | fail)
                    go_ret
                    exact ⟨by rw [← HB.out, HE.out]; rfl, rfl⟩
                  · have q2 : ¬ (highN c : Int) < ((((sv l)[i + 1]'hsk).toNat : Nat) : Int) := by rw [← HDD.out]; omega
                    have hb : okAt (l.drop i) c 1 = true := by rw [okAt_at hikl HDD.out, if_pos rfl]; simp; omega
                    have HE := Lib.hid hb
                    clear hb hd1 hd2
                    go_wp2_with (first | (go_at_call 18; refine lowest_r.mono ?_; rintro e w2 ⟨rfl, rfl⟩) | (go_at_call 19; refine highest_r.mono ?_; rintro e w2 ⟨rfl, rfl⟩) | fail)
                    refine ⟨⟨1 + 1, by omega, by omega, by go_num, ?_, rfl⟩, ?_⟩
                    · intro j h1 h2
                      by_cases hj : j = 1
                      · rw [hj]; exact HE.out
                      · exact HOK.out j h1 (by omega)
                    · simp only [intOf]; omega
              · have hk' : ¬ (k : Int) = 1 := by omega
                by_cases hd1 : d < 128
                · have q1 : ((((sv l)[i + k]'hsk).toNat : Nat) : Int) < (128 : Int) := by rw [← HDD.out]; omega
                  have hb : okAt (l.drop i) c k = false := by rw [okAt_at hikl HDD.out, if_neg hk]; simp; omega
                  have HE := Lib.hid (letters_bad HI.out.1 HI.out.2.1 HI.out.2.2.1 HM.out hk1 hkn hb)
                  clear hb hd1
                  go_wp2_with (first | fail)
                  go_ret
                  exact ⟨by rw [← HB.out, HE.out]; rfl, rfl⟩
                · have q1 : ¬ ((((sv l)[i + k]'hsk).toNat : Nat) : Int) < (128 : Int) := by rw [← HDD.out]; omega
                  by_cases hd2 : 191 < d
                  · have q2 : (191 : Int) < ((((sv l)[i + k]'hsk).toNat : Nat) : Int) := by rw [← HDD.out]; omega
                    have hb : okAt (l.drop i) c k = false := by rw [okAt_at hikl HDD.out, if_neg hk]; simp; omega
                    have HE := Lib.hid (letters_bad HI.out.1 HI.out.2.1 HI.out.2.2.1 HM.out hk1 hkn hb)
                    clear hb hd1 hd2
                    go_wp2_with (first | fail)
                    go_ret
                    exact ⟨by rw [← HB.out, HE.out]; rfl, rfl⟩
                  · have q2 : ¬ (191 : Int) < ((((sv l)[i + k]'hsk).toNat : Nat) : Int) := by rw [← HDD.out]; omega
                    have hb : okAt (l.drop i) c k = true := by rw [okAt_at hikl HDD.out, if_neg hk]; simp; omega
                    have HE := Lib.hid hb
                    clear hb hd1 hd2
                    go_wp2_with (first | fail)
                    refine ⟨⟨k + 1, by omega, by omega, by go_num, ?_, rfl⟩, ?_⟩
                    · intro j h1 h2
                      by_cases hj : j = k
                      · rw [hj]; exact HE.out
                      · exact HOK.out j h1 (by omega)
                    · simp only [intOf]; omega
            · obtain rfl : k = n + 1 := by omega
              have c1 : ¬ ((n + 1 : Nat) : Int) ≤ (n : Int) := by omega
              have hgd := letters_good HI.out.1 HI.out.2.1 HI.out.2.2.1 HM.out hin HOK.out
              have HE := Lib.hid hgd
              clear hgd
              go_wp2_with fail
              refine ⟨⟨i + n + 1, by omega, by go_num, HE.out, rfl⟩, ?_⟩
              simp only [intOf]; omega
        · have g1 : (i : Int) + (n : Int) ≥ (l.length : Int) := by omega
          have e2 : letters l = false := by
            rw [HI.out.1, letters_step HI.out.2.1]
            have : letterAt (l.drop i) = none := by
              unfold letterAt
              rw [HI.out.2.2.1, HM.out]
              simp only
              rw [if_pos (by rw [List.length_drop]; omega)]
            rw [this]
          have HE := Lib.hid e2
          clear e2
          go_wp2_with fail
          go_ret
          exact ⟨by rw [← HB.out, HE.out]; rfl, rfl⟩
    · obtain rfl : i = l.length := by omega
      have hj1 : ¬ (l.length : Int) < (l.length : Int) := by omega
      have e2 : letters l = true := by rw [hlt, List.drop_length]; rfl
      have HE := Lib.hid e2
      clear hi hlt hil hll e2
      go_wp2_with fail
      go_ret
      exact ⟨by rw [← HB.out, HE.out]; rfl, rfl⟩
end Go.Proofs.YtimmhinpdfpokaaDoor.SP
