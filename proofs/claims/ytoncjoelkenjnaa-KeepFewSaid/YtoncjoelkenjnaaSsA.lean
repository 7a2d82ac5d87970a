/- slices.SortStableFunc at []int: a row of ints, an exchange, swapRange, rotate. -/
import Derived.Test.YtoncjoelkenjnaaChecked
import Derived.Test.YtoncjoelkenjnaaMem
import Derived.WalkKit
import Derived.WalkSpells
import Derived.Lib.Hide
import Derived.BigRegion
namespace Go.Proofs.Ytoncjoelkenjnaa.SS
open Go.RowKit Mem
set_option linter.unusedVariables false
set_option linter.unusedSimpArgs false

def iv (n : Int) : Value := .int .i64 n
/-- Block b holds the ints L, and R behind them. -/
def IB (w : World) (b : Nat) (L : List Int) (R : List Value) : Prop := Blk w b 3 (L.map iv ++ R).toArray
theorem IB.mod {S : Nat → Prop} {w w' : World} {b : Nat} {L : List Int} {R : List Value} (h : IB w b L R) (m : Mod S w w') (hn : ¬ S b) : IB w' b L R := Blk.mod h m hn
theorem IB.drew {w : World} {b : Nat} {L : List Int} {R : List Value} (h : IB w b L R) : IB w.drew b L R := Blk.drew h
theorem IB.at_ {w : World} {b : Nat} {A C : List Int} {x : Int} {R : List Value} (h : IB w b (A ++ x :: C) R) {i : Nat} (hi : i = A.length) : w.cell? ⟨b, i, none⟩ = some (.int .i64 x) := by
  subst hi
  rw [Blk.cell h, List.getElem?_toArray, List.map_append, List.map_cons, List.append_assoc, List.getElem?_append_right (by simp), List.length_map, Nat.sub_self]
  rfl
theorem IB.free {w : World} {b : Nat} {L : List Int} {R : List Value} (h : IB w b L R) (i : Nat) : w.frozen? ⟨b, i, none⟩ = false := Blk.free h i
theorem set_mid {α : Type} (A C : List α) (x y : α) : (A ++ x :: C).set A.length y = A ++ y :: C := by
  rw [List.set_append_right _ _ (Nat.le_refl _), Nat.sub_self]; rfl
/-- Two elements change places. -/
theorem swap2 {α : Type} (A B C : List α) (x z : α) {i j : Nat} (hi : i = A.length) (hj : j = A.length + 1 + B.length) : ((A ++ x :: (B ++ z :: C)).set i z).set j x = A ++ z :: (B ++ x :: C) := by
  subst hi hj
  rw [set_mid]
  have h : A ++ z :: (B ++ z :: C) = (A ++ z :: B) ++ z :: C := by simp
  rw [h, show A.length + 1 + B.length = (A ++ z :: B).length by simp; omega, set_mid]
  simp
theorem IB.swap {w : World} {b : Nat} {A B C : List Int} {x z : Int} {R : List Value} (h : IB w b (A ++ x :: (B ++ z :: C)) R) {i j : Nat} (hi : i = A.length) (hj : j = A.length + 1 + B.length) :
    IB ((w.setCell ⟨b, i, none⟩ (.int .i64 z)).setCell ⟨b, j, none⟩ (.int .i64 x)) b (A ++ z :: (B ++ x :: C)) R := by
  have h2 := (Blk.put h i (.int .i64 z)).put j (.int .i64 x)
  unfold IB
  have e : ((List.map iv (A ++ x :: (B ++ z :: C)) ++ R).toArray.setIfInBounds i (.int .i64 z)).setIfInBounds j (.int .i64 x) = (List.map iv (A ++ z :: (B ++ x :: C)) ++ R).toArray := by
    rw [List.setIfInBounds_toArray, List.setIfInBounds_toArray]
    congr 1
    have e1 : List.map iv (A ++ x :: (B ++ z :: C)) ++ R = A.map iv ++ iv x :: (B.map iv ++ iv z :: (C.map iv ++ R)) := by simp
    have e2 : List.map iv (A ++ z :: (B ++ x :: C)) ++ R = A.map iv ++ iv z :: (B.map iv ++ iv x :: (C.map iv ++ R)) := by simp
    rw [e1, e2]
    exact swap2 (A.map iv) (B.map iv) (C.map iv ++ R) (iv x) (iv z) (by simpa using hi) (by simpa using hj)
  rw [← e]
  exact h2
theorem mod_swap {w w' : World} {b : Nat} (m : Mod (one b) w w') (i j : Nat) (u v : Value) : Mod (one b) w ((w'.setCell ⟨b, i, none⟩ u).setCell ⟨b, j, none⟩ v) :=
  (m.set (p := ⟨b, i, none⟩) (fun _ => rfl) u).set (p := ⟨b, j, none⟩) (fun _ => rfl) v
theorem meas1 {N i : Nat} (h : i < N) {v : Int} (hv : v = (i : Int) + 1) : N - (intOf (.int .i64 v)).toNat < N - (intOf (.int .i64 (i : Int))).toNat := by
  subst hv
  simp only [intOf]
  omega
/-- The loop of swapRange. -/
def SI (w : World) (b : Nat) (P X Y Z Q : List Int) (R : List Value) (v : Value) (wr : World) : Prop := ∃ i : Nat, i ≤ X.length ∧ v = .int .i64 (i : Int) ∧ IB wr b (P ++ (Z.take i ++ X.drop i) ++ Y ++ (X.take i ++ Z.drop i) ++ Q) R ∧ Mod (one b) w wr
set_option maxRecDepth 100000 in
set_option maxHeartbeats 4000000 in
theorem swapRange_any {w : World} {b c : Nat} {P X Y Z Q : List Int} {R : List Value} {fv : Value} (hXZ : X.length = Z.length) (H : IB w b (P ++ X ++ Y ++ Z ++ Q) R) (hl : (P ++ X ++ Y ++ Z ++ Q).length ≤ 1048600) :
    Calls Try.prog 59 #[.slice (some ⟨b, 0, none⟩) (P ++ X ++ Y ++ Z ++ Q).length c, .int .i64 (P.length : Int), .int .i64 ((P.length + X.length + Y.length : Nat) : Int), .int .i64 (X.length : Int), fv] w fun e w' => e = .returned (.tuple #[]) ∧ IB w' b (P ++ Z ++ Y ++ X ++ Q) R ∧ Mod (one b) w w' := by
  have hlen : (P ++ X ++ Y ++ Z ++ Q).length = P.length + X.length + Y.length + X.length + Q.length := by simp only [List.length_append]; omega
  obtain ⟨N, hN⟩ : ∃ N, N = (P ++ X ++ Y ++ Z ++ Q).length := ⟨_, rfl⟩
  obtain ⟨s, hs⟩ : ∃ s, s = P.length + X.length + Y.length := ⟨_, rfl⟩
  rw [← hN, ← hs]
  have HN := Lib.hid (show N = s + X.length + Q.length ∧ N ≤ 1048600 by rw [hN, hs]; exact ⟨hlen, hl⟩)
  have HS := Lib.hid hs
  have HX := Lib.hid hXZ
  have H0 := Lib.hid H
  clear hlen hl hs hXZ H hN
  go_enter Try.func59, Try.ntmps59
  go_wp2_with fail
  go_loopw [10] (SI w b P X Y Z Q R) (fun v _ => X.length - (intOf v).toNat)
  case atStart => exact ⟨0, Nat.zero_le _, rfl, by simpa using H0.out, Mod.refl _ _⟩
  case round =>
    obtain ⟨i, hi, rfl, hb, hM⟩ := hrel
    have HB := Lib.hid hb
    have HM := Lib.hid hM
    clear hb hM
    by_cases hlt : i < X.length
    · obtain ⟨x, hx⟩ : ∃ x, X[i]? = some x := ⟨_, List.getElem?_eq_getElem hlt⟩
      obtain ⟨z, hz⟩ : ∃ z, Z[i]? = some z := ⟨_, List.getElem?_eq_getElem (by rw [← HX.out]; exact hlt)⟩
      have hxd : X.drop i = x :: X.drop (i + 1) := by rw [List.drop_eq_getElem_cons hlt, (List.getElem?_eq_some_iff.1 hx).2]
      have hzd : Z.drop i = z :: Z.drop (i + 1) := by rw [List.drop_eq_getElem_cons (by rw [← HX.out]; exact hlt), (List.getElem?_eq_some_iff.1 hz).2]
      have hxt : X.take (i + 1) = X.take i ++ [x] := by rw [List.take_add_one, hx]; rfl
      have hzt : Z.take (i + 1) = Z.take i ++ [z] := by rw [List.take_add_one, hz]; rfl
      have e1 : P ++ (Z.take i ++ X.drop i) ++ Y ++ (X.take i ++ Z.drop i) ++ Q = (P ++ Z.take i) ++ x :: ((X.drop (i + 1) ++ Y ++ X.take i) ++ z :: (Z.drop (i + 1) ++ Q)) := by rw [hxd, hzd]; simp
      have e2 : P ++ (Z.take (i + 1) ++ X.drop (i + 1)) ++ Y ++ (X.take (i + 1) ++ Z.drop (i + 1)) ++ Q = (P ++ Z.take i) ++ z :: ((X.drop (i + 1) ++ Y ++ X.take i) ++ x :: (Z.drop (i + 1) ++ Q)) := by rw [hxt, hzt]; simp
      have hlen1 : P.length + i = (P ++ Z.take i).length := by simp; have := HX.out; omega
      have hlen2 : s + i = (P ++ Z.take i).length + 1 + (X.drop (i + 1) ++ Y ++ X.take i).length := by simp; have := HX.out; have := HS.out; omega
      have hb := HB.out
      rw [e1] at hb
      have c1 : wr.cell? ⟨b, P.length + i, none⟩ = some (.int .i64 x) := hb.at_ hlen1
      have c2 : wr.cell? ⟨b, s + i, none⟩ = some (.int .i64 z) := by
        have h : (P ++ Z.take i) ++ x :: ((X.drop (i + 1) ++ Y ++ X.take i) ++ z :: (Z.drop (i + 1) ++ Q)) = ((P ++ Z.take i) ++ x :: (X.drop (i + 1) ++ Y ++ X.take i)) ++ z :: (Z.drop (i + 1) ++ Q) := by simp
        rw [h] at hb
        exact hb.at_ (by rw [hlen2]; simp; omega)
      have hE := Lib.hid (show IB ((wr.setCell ⟨b, P.length + i, none⟩ (.int .i64 z)).setCell ⟨b, s + i, none⟩ (.int .i64 x)) b (P ++ (Z.take (i + 1) ++ X.drop (i + 1)) ++ Y ++ (X.take (i + 1) ++ Z.drop (i + 1)) ++ Q) R by rw [e2]; exact hb.swap hlen1 hlen2)
      have r1 := hb.free (P.length + i)
      have r2 := hb.free (s + i)
      have hne : P.length + i ≠ s + i := by have := HS.out; omega
      have HK := Lib.hid hlt
      have w1 : wrap64 ((P.length : Int) + (i : Int)) = ((P.length + i : Nat) : Int) := by rw [IntWalk.wrap64_in _ (by have := HN.out; have := HS.out; omega)]; omega
      have w2 : wrap64 ((s : Int) + (i : Int)) = ((s + i : Nat) : Int) := by rw [IntWalk.wrap64_in _ (by have := HN.out; omega)]; omega
      have w3 : wrap64 ((i : Int) + 1) = (i : Int) + 1 := IntWalk.wrap64_in _ (by have := HN.out; omega)
      have b1 : ((P.length + i : Nat) : Int) < (N : Int) := by have := HN.out; have := HS.out; omega
      have b2 : ((s + i : Nat) : Int) < (N : Int) := by have := HN.out; omega
      have hli : (i : Int) < (X.length : Int) := by omega
      have n1 : ¬ ((P.length + i : Nat) : Int) < 0 := by omega
      have n2 : ¬ ((s + i : Nat) : Int) < 0 := by omega
      clear hx hz hxd hzd hxt hzt e1 e2 hlen1 hlen2 hb hlt hi
      obtain ⟨p1, hp1⟩ : ∃ p1, p1 = P.length + i := ⟨_, rfl⟩
      obtain ⟨p2, hp2⟩ : ∃ p2, p2 = s + i := ⟨_, rfl⟩
      rw [← hp1] at c1 r1 hne w1 b1 n1 hE
      rw [← hp2] at c2 r2 hne w2 b2 n2 hE
      clear hp1 hp2
      go_wp2_with fail
      go_region
      go_wp2
      go_round
      case rel => exact ⟨i + 1, by have := HK.out; omega, by go_num, hE.out.drew, (mod_swap HM.out _ _ _ _).drew⟩
      case measure => first | exact meas1 HK.out rfl | exact meas1 HK.out w3
    · obtain rfl : i = X.length := by omega
      have hE := Lib.hid (show IB wr b (P ++ Z ++ Y ++ X ++ Q) R by
        have h := HB.out
        rw [List.take_of_length_le (by rw [← HX.out]; exact Nat.le_refl _), List.drop_of_length_le (Nat.le_refl _), List.take_of_length_le (Nat.le_refl _), List.drop_of_length_le (by rw [← HX.out]; exact Nat.le_refl _)] at h
        simpa using h)
      go_wp2
      go_end0
      exact ⟨rfl, hE.out, HM.out⟩
theorem wsub {x y z : Nat} (h : x = z + y) (hx : x ≤ 4000000) : wrap64 ((x : Int) - (y : Int)) = (z : Int) := by
  rw [IntWalk.wrap64_in _ (by omega)]; omega
theorem wadd {x y z : Nat} (h : z = x + y) (hx : z ≤ 4000000) : wrap64 ((x : Int) + (y : Int)) = (z : Int) := by
  rw [IntWalk.wrap64_in _ (by omega)]; omega
theorem waddsub {x y u t : Nat} (h : x + y = u + t) (hx : x + y ≤ 4000000) : wrap64 ((x : Int) + (y : Int) - (u : Int)) = (t : Int) := by
  rw [IntWalk.wrap64_in _ (by omega)]; omega
/-- The rotation's loop. -/
def RI (w : World) (b m : Nat) (T : List Int) (R : List Value) (vi vj : Value) (wr : World) : Prop := ∃ (i j p : Nat) (P A B Q : List Int), A.length = i ∧ B.length = j ∧ P.length = p ∧ vi = .int .i64 (i : Int) ∧ vj = .int .i64 (j : Int) ∧ 0 < i ∧ 0 < j ∧ p + i = m ∧ P ++ B ++ A ++ Q = T ∧ IB wr b (P ++ A ++ B ++ Q) R ∧ Mod (one b) w wr
theorem len4 (P A B Q : List Int) : (P ++ A ++ B ++ Q).length = P.length + A.length + B.length + Q.length := by simp only [List.length_append]
theorem len4' (P A B Q : List Int) : (P ++ B ++ A ++ Q).length = P.length + A.length + B.length + Q.length := by simp only [List.length_append]; omega
theorem meas2 {x y z t : Nat} (h : z + t < x + y) : (intOf (.int .i64 (z : Int))).toNat + (intOf (.int .i64 (t : Int))).toNat < (intOf (.int .i64 (x : Int))).toNat + (intOf (.int .i64 (y : Int))).toNat := by
  simp only [intOf]
  omega
set_option maxRecDepth 100000 in
set_option maxHeartbeats 1000000 in
theorem rotate_any {w : World} {b c : Nat} {P A B Q : List Int} {R : List Value} {fv : Value} (hA : 0 < A.length) (hB : 0 < B.length) (H : IB w b (P ++ A ++ B ++ Q) R) (hl : (P ++ A ++ B ++ Q).length ≤ 1048600) :
    Calls Try.prog 58 #[.slice (some ⟨b, 0, none⟩) (P ++ A ++ B ++ Q).length c, .int .i64 (P.length : Int), .int .i64 ((P.length + A.length : Nat) : Int), .int .i64 ((P.length + A.length + B.length : Nat) : Int), fv] w fun e w' => e = .returned (.tuple #[]) ∧ IB w' b (P ++ B ++ A ++ Q) R ∧ Mod (one b) w w' := by
  obtain ⟨N, hN⟩ : ∃ N, N = (P ++ A ++ B ++ Q).length := ⟨_, rfl⟩
  obtain ⟨T, hT⟩ : ∃ T, T = P ++ B ++ A ++ Q := ⟨_, rfl⟩
  obtain ⟨m, hm⟩ : ∃ m, m = P.length + A.length := ⟨_, rfl⟩
  obtain ⟨e, he⟩ : ∃ e, e = m + B.length := ⟨_, rfl⟩
  obtain ⟨p0, hp0⟩ : ∃ p0, p0 = P.length := ⟨_, rfl⟩
  have hTN : T.length = N := by rw [hT, hN, len4, len4']
  have w1 : wrap64 ((m : Int) - (p0 : Int)) = (A.length : Int) := by rw [len4] at hl; rw [IntWalk.wrap64_in _ (by omega)]; omega
  have w2 : wrap64 ((e : Int) - (m : Int)) = (B.length : Int) := by rw [len4] at hl; rw [IntWalk.wrap64_in _ (by omega)]; omega
  have HI := Lib.hid (show RI w b m T R (.int .i64 (A.length : Int)) (.int .i64 (B.length : Int)) w from ⟨_, _, _, P, A, B, Q, rfl, rfl, rfl, rfl, rfl, hA, hB, hm.symm, hT.symm, H, Mod.refl _ _⟩)
  rw [← hN, ← hm, ← hT, ← he, ← hp0]
  have HN := Lib.hid (show N ≤ 1048600 by rw [hN]; exact hl)
  have HTN := Lib.hid hTN
  clear hA hB H hl hN hT hTN hm he hp0
  go_enter Try.func58, Try.ntmps58
  go_wp2_with fail
  go_loopw [10, 11] (RI w b m T R) (fun vi vj _ => (intOf vi).toNat + (intOf vj).toNat)
  case atStart => rw [w1, w2]; exact HI.out
  case round =>
    clear w1 w2
    obtain ⟨i, j, p, P', A', B', Q', hAi, hBj, hPp, rfl, rfl, hi, hj, hpm, ht, hib, hM⟩ := hrel
    have hlen : p + i + j + Q'.length = N := by rw [← HTN.out, ← ht, len4', hAi, hBj, hPp]
    have HM := Lib.hid hM
    have HB := Lib.hid hib
    have HT := Lib.hid ht
    have HL := Lib.hid (And.intro hlen HN.out)
    have HA := Lib.hid (And.intro hAi (And.intro hBj (And.intro hPp (And.intro hi (And.intro hj hpm)))))
    have w3 : wrap64 ((m : Int) - (i : Int)) = (p : Int) := wsub (by omega) (by have := HL.out; omega)
    clear hM hib ht hlen HI hi hj hAi hBj hPp hpm
    by_cases hgt : j < i
    · have g1 : ¬ (i : Int) = (j : Int) := by omega
      have g2 : (j : Int) < (i : Int) := by omega
      have w4 : wrap64 ((i : Int) - (j : Int)) = ((i - j : Nat) : Int) := wsub (by omega) (by have h := HL.out; clear w3; omega)
      obtain ⟨hAi, hBj, hPp, hi, hj, hpm⟩ := HA.out
      have hX : (A'.take j).length = j := by rw [List.length_take]; omega
      have hY : (A'.drop j).length = i - j := by rw [List.length_drop]; omega
      have hXY := List.take_append_drop j A'
      generalize A'.take j = X at hX hXY
      generalize A'.drop j = Y at hY hXY
      have hlN : (P' ++ X ++ Y ++ B' ++ Q').length = N := by have h := HL.out.1; simp only [List.length_append, hX, hY, hBj, hPp]; omega
      have HC := Lib.hid (swapRange_any (w := wr) (c := c) (P := P') (X := X) (Y := Y) (Z := B') (Q := Q') (R := R) (fv := fv) (hX.trans hBj.symm) (by have h := HB.out; rw [← hXY] at h; simpa using h) (by rw [hlN]; exact HN.out))
      rw [hlN, show P'.length + X.length + Y.length = m by omega, hX, hPp] at HC
      have HY := Lib.hid (And.intro hX (And.intro hY hXY))
      have HK := Lib.hid hgt
      clear hlN hX hY hXY hgt hAi hBj hPp hi hj hpm
      go_wp2_with (go_at_call 59; refine HC.out.mono ?_; rintro e w9 ⟨rfl, hb4, m4⟩; have HB4 := Lib.hid hb4; have M4 := Lib.hid m4; clear hb4 m4)
      go_roundw
      case rel =>
        obtain ⟨hAi, hBj, hPp, hi, hj, hpm⟩ := HA.out
        obtain ⟨hX, hY, hXY⟩ := HY.out
        refine ⟨i - j, j, p + j, P' ++ B', Y, X, Q', hY, hX, by rw [List.length_append, hPp, hBj], by first | rfl | rw [w4], rfl, by have := HK.out; omega, hj, by have := HK.out; omega, ?_, ?_, HM.out.and_then M4.out⟩
        · rw [← HT.out, ← hXY]; simp
        · have h := HB4.out; simpa using h
      case measure => first | exact meas2 (by have := HK.out; have := HA.out; omega) | (rw [w4]; exact meas2 (by have := HK.out; have := HA.out; omega))
    by_cases hlt : i < j
    · have g1 : ¬ (i : Int) = (j : Int) := by omega
      have g2 : ¬ (j : Int) < (i : Int) := by omega
      have w4 : wrap64 ((j : Int) - (i : Int)) = ((j - i : Nat) : Int) := wsub (by omega) (by have h := HL.out; clear w3; omega)
      obtain ⟨hAi, hBj, hPp, hi, hj, hpm⟩ := HA.out
      have hY : (B'.take (j - i)).length = j - i := by rw [List.length_take]; omega
      have hZ : (B'.drop (j - i)).length = i := by rw [List.length_drop]; omega
      have hYZ := List.take_append_drop (j - i) B'
      generalize B'.take (j - i) = Y at hY hYZ
      generalize B'.drop (j - i) = Z at hZ hYZ
      have hlN : (P' ++ A' ++ Y ++ Z ++ Q').length = N := by have h := HL.out.1; simp only [List.length_append, hY, hZ, hAi, hPp]; omega
      have HC := Lib.hid (swapRange_any (w := wr) (c := c) (P := P') (X := A') (Y := Y) (Z := Z) (Q := Q') (R := R) (fv := fv) (hAi.trans hZ.symm) (by have h := HB.out; rw [← hYZ] at h; simpa using h) (by rw [hlN]; exact HN.out))
      obtain ⟨t, ht⟩ : ∃ t, t = p + j := ⟨_, rfl⟩
      rw [hlN, show P'.length + A'.length + Y.length = t by omega, hAi, hPp] at HC
      have hmj : m + j = t + i := by clear w3 w4; omega
      have hmj2 : m + j ≤ 4000000 := by have h := HL.out; clear w3 w4; omega
      have w5 : wrap64 ((m : Int) + (j : Int)) = ((m + j : Nat) : Int) := wadd rfl hmj2
      have w6 : wrap64 (((m + j : Nat) : Int) - (i : Int)) = (t : Int) := wsub hmj hmj2
      have w6' : wrap64 ((m : Int) + (j : Int) - (i : Int)) = (t : Int) := waddsub (by rw [hmj, Nat.add_comm]) hmj2
      clear hmj hmj2
      have HY := Lib.hid (And.intro hY (And.intro hZ hYZ))
      have HK := Lib.hid hlt
      clear hlN hY hZ hYZ hlt hgt hAi hBj hPp hi hj hpm ht
      go_wp2_with (go_at_call 59; refine HC.out.mono ?_; rintro e w9 ⟨rfl, hb4, m4⟩; have HB4 := Lib.hid hb4; have M4 := Lib.hid m4; clear hb4 m4)
      go_roundw
      case rel =>
        obtain ⟨hAi, hBj, hPp, hi, hj, hpm⟩ := HA.out
        obtain ⟨hY, hZ, hYZ⟩ := HY.out
        refine ⟨i, j - i, p, P', Z, Y, A' ++ Q', hZ, hY, hPp, rfl, by first | rfl | rw [w4], hi, by have := HK.out; omega, hpm, ?_, ?_, HM.out.and_then M4.out⟩
        · rw [← HT.out, ← hYZ]; simp
        · have h := HB4.out; simpa using h
      case measure => first | exact meas2 (by have := HK.out; have := HA.out; omega) | (rw [w4]; exact meas2 (by have := HK.out; have := HA.out; omega))
    · obtain rfl : i = j := by omega
      obtain ⟨hAi, hBj, hPp, hi, hj, hpm⟩ := HA.out
      have hlN : (P' ++ A' ++ [] ++ B' ++ Q').length = N := by have h := HL.out.1; simp only [List.length_append, List.length_nil]; omega
      have HC := Lib.hid (swapRange_any (w := wr) (c := c) (P := P') (X := A') (Y := []) (Z := B') (Q := Q') (R := R) (fv := fv) (hAi.trans hBj.symm) (by have h := HB.out; simpa using h) (by rw [hlN]; exact HN.out))
      rw [hlN, show P'.length + A'.length + ([] : List Int).length = m by rw [List.length_nil]; omega, hAi, hPp] at HC
      clear hlN hgt hlt hAi hBj hPp hi hj hpm
      go_wp2_with (go_at_call 59; refine HC.out.mono ?_; rintro e w9 ⟨rfl, hb4, m4⟩; have HB4 := Lib.hid hb4; have M4 := Lib.hid m4; clear hb4 m4)
      go_end0
      refine ⟨rfl, ?_, HM.out.and_then M4.out⟩
      rw [← HT.out]
      have h := HB4.out
      simpa using h
end Go.Proofs.Ytoncjoelkenjnaa.SS
