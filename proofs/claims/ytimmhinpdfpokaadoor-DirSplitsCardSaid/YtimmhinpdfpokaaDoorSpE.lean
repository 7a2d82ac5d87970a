/- The document's Split: its walk. -/
import Derived.Test.YtimmhinpdfpokaaDoorSpD
import Derived.Test.YtimmhinpdfpokaaDoorSpP
namespace Go.Proofs.YtimmhinpdfpokaaDoor.SP
open Go.RowKit Mem
set_option linter.unusedVariables false
set_option linter.unusedSimpArgs false

/-- What the document's Split answers. -/
def RS (w : World) (l : List UInt8) (e : Ending) (w' : World) : Prop :=
  Mod no w w' ∧ ((good l = true ∧ ∃ A c, e = .returned (.tuple #[.slice A (cuts l).length c, .int .i64 0]) ∧ w'.ownsRow w.heap.size 9 1 (.slice A (cuts l).length c) (cuts l).length (strs (cuts l))) ∨
    (good l = false ∧ e = .returned (.tuple #[.slice none 0 0, .int .i64 (codeOf l)])))
/-- The name that is being read. -/
def cur (l : List UInt8) (f i : Nat) : List UInt8 := (l.drop f).take (i - f)
theorem cur_ext {l : List UInt8} {f i : Nat} (hf : f ≤ i) (hi : i ≤ l.length) : (sv l).extract f i = sv (cur l f i) := by
  apply congrArg (ByteArray.mk)
  simp [sv, cur]
theorem cur_next {l : List UInt8} {f i : Nat} (hf : f ≤ i) (hi : i < l.length) : cur l f (i + 1) = cur l f i ++ [l[i]] := by
  unfold cur
  rw [show i + 1 - f = (i - f) + 1 by omega, List.take_succ_eq_append_getElem (by rw [List.length_drop]; omega)]
  congr 2
  rw [List.getElem_drop]
  congr 1
  omega
theorem cur_self (l : List UInt8) (i : Nat) : cur l i i = [] := by simp [cur]
theorem cur_length {l : List UInt8} {f i : Nat} : (cur l f i).length ≤ l.length := by unfold cur; rw [List.length_take, List.length_drop]; omega
theorem strs_snoc (ns : List (List UInt8)) (x : List UInt8) : strs (ns ++ [x]) = strs ns ++ [.string (sv x)] := by simp [strs]
/-- What the loop holds. -/
def EI (w : World) (l : List UInt8) (v4 v5 v6 : Value) (wr : World) : Prop := ∃ (i f : Nat) (ns : List (List UInt8)) (A : Option Addr) (c : Nat), i ≤ l.length + 1 ∧ v6 = .int .i64 (i : Int) ∧ v5 = .int .i64 (f : Int) ∧ v4 = .slice A ns.length c ∧
  wr.ownsRow w.heap.size 9 1 (.slice A ns.length c) ns.length (strs ns) ∧ ns.all named = true ∧ Mod no w wr ∧ ns.length ≤ i ∧
  ((i ≤ l.length ∧ f ≤ i ∧ ns ++ onto (cur l f i) (cuts (l.drop i)) = cuts l) ∨ (i = l.length + 1 ∧ ns = cuts l))
set_option maxRecDepth 100000 in
set_option maxHeartbeats 4000000 in
theorem rsplit_r {w : World} {l : List UInt8} : Calls Tryd.prog 5 #[.string (sv l)] w fun e w' => RS w l e w' := by
  have hsz := sv_size l
  by_cases h0 : l = []
  · have HE := Lib.hid (good_short (l := l) (.inl h0))
    have HC := Lib.hid (show codeOf l = 0 by rw [codeOf, if_pos (.inl h0)])
    have g1 : (sv l).toList = [] := by rw [sv_list]; exact h0
    have g2 : ((sv l).toList == []) = true := by rw [g1]; rfl
    clear h0
    go_enter Tryd.func5, Tryd.ntmps5
    go_wp2_with fail
    go_ret2
    exact ⟨Mod.refl _ _, .inr ⟨HE.out, by rw [HC.out]; rfl⟩⟩
  have g1 : ¬ (sv l).toList = [] := by rw [sv_list]; exact h0
  have g1' : ((sv l).toList == []) = false := by rw [sv_list]; simpa using h0
  by_cases h1 : 4096 < l.length
  · have HE := Lib.hid (good_short (l := l) (.inr (.inl h1)))
    have HC := Lib.hid (show codeOf l = 250 by rw [codeOf, if_neg]; rw [HE.out]; simp [h0])
    have g2 : (4096 : Int) < (l.length : Int) := by omega
    clear h0
    go_enter Tryd.func5, Tryd.ntmps5
    go_wp2_with fail
    go_ret2
    exact ⟨Mod.refl _ _, .inr ⟨HE.out, by rw [HC.out]; rfl⟩⟩
  have g2 : ¬ (4096 : Int) < (l.length : Int) := by omega
  have H0 := Lib.hid h0
  have H1 := Lib.hid h1
  have HLL := Lib.hid (show l.length ≤ 4096 by omega)
  clear h0 h1
  go_enter Tryd.func5, Tryd.ntmps5
  go_wp2_with fail
  go_loopw [4, 5, 6] (fun (v4 v5 v6 : Value) (wr : World) => EI w l v4 v5 v6 wr) (fun _ _ v6 _ => l.length + 1 - (intOf v6).toNat)
  case atStart =>
    refine ⟨0, 0, [], none, 0, Nat.zero_le _, rfl, rfl, rfl, World.ownsRow_nil _ _ _ _, rfl, Mod.refl _ _, Nat.le_refl _, .inl ⟨Nat.zero_le _, Nat.le_refl _, ?_⟩⟩
    rw [cur_self, List.drop_zero, onto_nil (cuts_ne l)]; rfl
  case round =>
    obtain ⟨i, f, ns, A, c, hi, rfl, rfl, rfl, hown, hall, hM, hnl, hd⟩ := hrel
    have hll := HLL.out
    have HO := Lib.hid hown
    have HA := Lib.hid hall
    have HM := Lib.hid hM
    clear hown hall hM
    rcases hd with ⟨hil, hfi, heq⟩ | ⟨hil, heq⟩
    · have HQ := Lib.hid heq
      clear heq
      have hj : (i : Int) ≤ (l.length : Int) := by omega
      have hex := cur_ext hfi hil
      have HCL := Lib.hid (show (cur l f i).length ≤ 1048576 by have := cur_length (l := l) (f := f) (i := i); omega)
      have hfj : (f : Int) ≤ (i : Int) := by omega
      by_cases hlt : i < l.length
      · have hsk : i < (sv l).size := by rw [hsz]; exact hlt
        have hj2 : (i : Int) < (l.length : Int) := by omega
        by_cases h47 : l[i] = 47
        · have q1 : ((((sv l)[i]'hsk).toNat : Nat) : Int) = 47 := by
            have : (sv l)[i]'hsk = l[i] := rfl
            rw [this, h47]; rfl
          have q2 : (((((sv l)[i]'hsk).toNat : Nat) : Int) != 47) = false := by rw [q1]; rfl
          have q3 : (((((sv l)[i]'hsk).toNat : Nat) : Int) == 47) = true := by rw [q1]; rfl
          have e0 : ns ++ (cur l f i :: cuts (l.drop (i + 1))) = cuts l := by
            have hd : l.drop i = 47 :: l.drop (i + 1) := (List.drop_eq_getElem_cons hlt).trans (congrArg (· :: l.drop (i + 1)) h47)
            have := HQ.out
            rw [hd, onto_slash] at this; exact this
          have HE0 := Lib.hid e0
          clear e0 h47
          obtain ⟨x, hx⟩ : ∃ x, x = cur l f i := ⟨_, rfl⟩
          rw [← hx] at HE0 HCL hex
          have HXX := Lib.hid hx
          clear hx
          cases hnx : named x with
          | false =>
            have HNX := Lib.hid hnx
            have HE := Lib.hid (good_not (l := l) (x := x) (by rw [← HE0.out]; simp) hnx)
            have HC := Lib.hid (show codeOf l = 250 by rw [codeOf, if_neg]; rw [HE.out]; simp [H0.out])
            clear hnx
            go_wp2_with (first | (go_at_call 9; refine (named_b HNX.out HCL.out).mono ?_; rintro e w2 ⟨rfl, rfl⟩))
            go_ret2
            exact ⟨HM.out, .inr ⟨HE.out, by rw [HC.out]; rfl⟩⟩
          | true =>
            have HNX := Lib.hid hnx
            clear hnx
            obtain ⟨i0, hi0, hz0, hz1, hz2⟩ := tx_info
            have HI0 := Lib.hid (And.intro hi0 (And.intro hz0 (And.intro hz1 hz2)))
            clear hi0 hz0 hz1 hz2
            go_wp2_with (first | (go_at_call 9; refine (named_b HNX.out HCL.out).mono ?_; rintro e w2 ⟨rfl, rfl⟩) | (at_builtin; refine wpList_put1 rfl (.tmp 38) (.tmp 40) 22 rfl w.heap.size 9 i0 (.string ⟨#[]⟩) 16 Tryd.underlying22 HI0.out.1 HI0.out.2.1 HI0.out.2.2.1 HI0.out.2.2.2 rfl wr A c ns.length _ (.string (sv x)) rfl rfl HO.out rfl (by simp only [maxLen]; omega) (by omega) HM.out.size ?_; rintro A2 c2 w3 hown3 hM3; have HO3 := Lib.hid hown3; have HM3 := Lib.hid hM3; clear hown3 hM3))
            refine ⟨⟨i + 1, i + 1, ns ++ [x], A2, c2, by omega, by go_num, by go_num, by simp, ?_, ?_, ?_, by simp; omega, ?_⟩, by simp only [intOf]; omega⟩
            · rw [strs_snoc, List.length_append]; exact HO3.out
            · rw [List.all_append, HA.out]; simp; exact HNX.out
            · exact HM.out.trans HM3.out (fun b hb c => by have := c.1; omega)
            · left
              refine ⟨by omega, Nat.le_refl _, ?_⟩
              rw [cur_self, onto_nil (cuts_ne _), List.append_assoc]
              exact HE0.out
        · have q1 : ¬ ((((sv l)[i]'hsk).toNat : Nat) : Int) = 47 := by
            have : (sv l)[i]'hsk = l[i] := rfl
            rw [this]; intro h
            exact h47 (UInt8.toNat_inj.1 (by show (l[i]).toNat = 47; omega))
          have q2 : (((((sv l)[i]'hsk).toNat : Nat) : Int) != 47) = true := by simpa using q1
          have q3 : (((((sv l)[i]'hsk).toNat : Nat) : Int) == 47) = false := by simpa using q1
          have H47 := Lib.hid h47
          clear h47 hex
          go_wp2_with fail
          refine ⟨⟨i + 1, f, ns, A, c, by omega, by go_num, rfl, rfl, HO.out, HA.out, HM.out, by omega, .inl ⟨by omega, by omega, ?_⟩⟩, by simp only [intOf]; omega⟩
          rw [cur_next hfi hlt]
          have hd : l.drop i = l[i]'hlt :: l.drop (i + 1) := List.drop_eq_getElem_cons hlt
          have h := HQ.out
          rw [hd] at h
          rw [← h]
          exact congrArg (ns ++ ·) (onto_other _ _ _ H47.out).symm
      · have hj2 : ¬ (i : Int) < (l.length : Int) := by omega
        have e0 : ns ++ [cur l f i] = cuts l := by
          have := HQ.out
          rw [List.drop_eq_nil_of_le (by omega), onto_end] at this; exact this
        have HE0 := Lib.hid e0
        clear e0
        obtain ⟨x, hx⟩ : ∃ x, x = cur l f i := ⟨_, rfl⟩
        rw [← hx] at HE0 HCL hex
        have HXX := Lib.hid hx
        clear hx
        cases hnx : named x with
        | false =>
          have HNX := Lib.hid hnx
          have HE := Lib.hid (good_not (l := l) (x := x) (by rw [← HE0.out]; simp) hnx)
          have HC := Lib.hid (show codeOf l = 250 by rw [codeOf, if_neg]; rw [HE.out]; simp [H0.out])
          clear hnx
          go_wp2_with (first | (go_at_call 9; refine (named_b HNX.out HCL.out).mono ?_; rintro e w2 ⟨rfl, rfl⟩))
          go_ret2
          exact ⟨HM.out, .inr ⟨HE.out, by rw [HC.out]; rfl⟩⟩
        | true =>
          have HNX := Lib.hid hnx
          clear hnx
          obtain ⟨i0, hi0, hz0, hz1, hz2⟩ := tx_info
          have HI0 := Lib.hid (And.intro hi0 (And.intro hz0 (And.intro hz1 hz2)))
          clear hi0 hz0 hz1 hz2
          go_wp2_with (first | (go_at_call 9; refine (named_b HNX.out HCL.out).mono ?_; rintro e w2 ⟨rfl, rfl⟩) | (at_builtin; refine wpList_put1 rfl (.tmp 38) (.tmp 40) 22 rfl w.heap.size 9 i0 (.string ⟨#[]⟩) 16 Tryd.underlying22 HI0.out.1 HI0.out.2.1 HI0.out.2.2.1 HI0.out.2.2.2 rfl wr A c ns.length _ (.string (sv x)) rfl rfl HO.out rfl (by simp only [maxLen]; omega) (by omega) HM.out.size ?_; rintro A2 c2 w3 hown3 hM3; have HO3 := Lib.hid hown3; have HM3 := Lib.hid hM3; clear hown3 hM3))
          refine ⟨⟨i + 1, i + 1, ns ++ [x], A2, c2, by omega, by go_num, by go_num, by simp, ?_, ?_, ?_, by simp; omega, ?_⟩, by simp only [intOf]; omega⟩
          · rw [strs_snoc, List.length_append]; exact HO3.out
          · rw [List.all_append, HA.out]; simp; exact HNX.out
          · exact HM.out.trans HM3.out (fun b hb c => by have := c.1; omega)
          · right
            exact ⟨by omega, HE0.out⟩
    · have hj : ¬ (i : Int) ≤ (l.length : Int) := by omega
      have HQ := Lib.hid heq
      clear heq
      by_cases h64 : 64 < ns.length
      · have HE := Lib.hid (good_short (l := l) (.inr (.inr (by rw [← HQ.out]; exact h64))))
        have HC := Lib.hid (show codeOf l = 250 by rw [codeOf, if_neg]; rw [HE.out]; simp [H0.out])
        have g3 : (64 : Int) < (ns.length : Int) := by omega
        go_wp2_with fail
        go_ret2
        exact ⟨HM.out, .inr ⟨HE.out, by rw [HC.out]; rfl⟩⟩
      · have g3 : ¬ (64 : Int) < (ns.length : Int) := by omega
        have HG := Lib.hid (good_yes H0.out H1.out (by rw [← HQ.out]; exact h64) (by rw [← HQ.out]; exact HA.out))
        go_wp2_with fail
        go_ret2
        exact ⟨HM.out, .inl ⟨HG.out, A, c, by rw [← HQ.out]; rfl, by rw [← HQ.out]; exact HO.out⟩⟩
end Go.Proofs.YtimmhinpdfpokaaDoor.SP
