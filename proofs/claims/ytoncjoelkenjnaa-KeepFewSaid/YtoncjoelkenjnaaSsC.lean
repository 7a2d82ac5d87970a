/- slices.SortStableFunc at []int: symMerge where the left row has one element. -/
import Derived.Test.YtoncjoelkenjnaaSsB
import Derived.Test.YtoncjoelkenjnaaSsS
namespace Go.Proofs.Ytoncjoelkenjnaa.SS
open Go.RowKit Mem
set_option linter.unusedVariables false
set_option linter.unusedSimpArgs false

theorem IB.dv {w : World} {b : Nat} {T : List Int} {R : List Value} (h : IB w b T R) {t : Nat} (ht : t < T.length) : w.cell? ⟨b, t, none⟩ = some (.int .i64 (SS.dv T t)) := by
  have h1 : SS.dv T t = T[t] := by unfold SS.dv; rw [List.getD_eq_getElem?_getD, List.getElem?_eq_getElem ht, Option.getD_some]
  rw [h1]
  obtain ⟨x, hx⟩ : ∃ x, x = T[t] := ⟨_, rfl⟩
  have e : T = T.take t ++ x :: T.drop (t + 1) := by rw [hx, List.getElem_cons_drop, List.take_append_drop]
  have hlen : t = (T.take t).length := by rw [List.length_take]; omega
  rw [← hx]
  have h2 : IB w b (T.take t ++ x :: T.drop (t + 1)) R := by rw [← e]; exact h
  exact h2.at_ hlen
/-- The search's loop. -/
def BI (w : World) (lo hi : Nat) (pr : Nat → Prop) (vi vj : Value) (wr : World) : Prop := ∃ i j n : Nat, vi = .int .i64 (i : Int) ∧ vj = .int .i64 (j : Int) ∧ BS lo hi pr i j ∧ wr = w.drewN n
theorem kfacts {k q i z N l : Nat} (h : q = k + 1) (h2 : q + 1 + l = i) (h3 : i ≤ z) (h4 : z ≤ N) (h5 : N ≤ 1048600) : (k : Int) < (i : Int) - 1 ∧ (k : Int) < ((i - 1 : Nat) : Int) ∧ wrap64 ((k : Int) + 1) = (q : Int) ∧ (k : Int) < (N : Int) ∧ (q : Int) < (N : Int) ∧ ¬ (k : Int) < 0 ∧ ¬ (q : Int) < 0 :=
  ⟨by omega, by omega, by rw [IntWalk.wrap64_in _ (by omega)]; omega, by omega, by omega, by omega, by omega⟩
theorem meask {k q i l : Nat} (h : q = k + 1) (h2 : q + 1 + l = i) : i - (intOf (.int .i64 (q : Int))).toNat < i - (intOf (.int .i64 (k : Int))).toNat := by
  simp only [intOf]
  omega
/-- The loop that carries the one rightwards. -/
def S1 (w : World) (b : Nat) (P B1 B2 Q : List Int) (x : Int) (R : List Value) (v : Value) (wr : World) : Prop := ∃ (k : Nat) (X Y : List Int), B1 = X ++ Y ∧ P.length + X.length = k ∧ v = .int .i64 (k : Int) ∧ IB wr b (P ++ (X ++ x :: Y) ++ B2 ++ Q) R ∧ Mod (one b) w wr
set_option maxRecDepth 100000 in
set_option maxHeartbeats 2000000 in
theorem sym1_any {K : Int → Int} {cf : Int → Int → Int} {D : Int → Prop} {g : Nat} {cb : Array Value} {w : World} {b c : Nat} {P B Q : List Int} {x : Int} {R : List Value} (C : CmpOK K cf D g cb b w) (H : IB w b (P ++ [x] ++ B ++ Q) R) (hl : (P ++ [x] ++ B ++ Q).length ≤ 1048600) (hB : Srt K B) (hx : ∀ y ∈ B, x < y) (hDx : D x) (hD : ∀ y ∈ B, D y) :
    Calls Try.prog 57 #[.slice (some ⟨b, 0, none⟩) (P ++ [x] ++ B ++ Q).length c, .int .i64 (P.length : Int), .int .i64 ((P.length + 1 : Nat) : Int), .int .i64 ((P.length + 1 + B.length : Nat) : Int), .func (.func g) #[] cb] w fun e w' => e = .returned (.tuple #[]) ∧ ∃ M, M.Perm (x :: B) ∧ Srt K M ∧ IB w' b (P ++ M ++ Q) R ∧ Mod (one b) w w' := by
  obtain ⟨N, hN⟩ : ∃ N, N = (P ++ [x] ++ B ++ Q).length := ⟨_, rfl⟩
  obtain ⟨a, ha⟩ : ∃ a, a = P.length := ⟨_, rfl⟩
  obtain ⟨m, hm⟩ : ∃ m, m = P.length + 1 := ⟨_, rfl⟩
  obtain ⟨z, hz⟩ : ∃ z, z = P.length + 1 + B.length := ⟨_, rfl⟩
  obtain ⟨T, hT⟩ : ∃ T, T = P ++ [x] ++ B ++ Q := ⟨_, rfl⟩
  have hNl : N = z + Q.length := by rw [hN, hz]; simp only [List.length_append, List.length_singleton]
  have hmono : ∀ s t, m ≤ s → s < t → t < z → K (dv T t) < K x → K (dv T s) < K x := fun s t h1 h2 h3 h4 => by
    have h := (dv_srt (P := P ++ [x]) (Q := Q) hB (s := s) (t := t) (by simp; omega) h2 (by simp; omega)).le
    rw [hT] at h4 ⊢
    omega
  have hmem : ∀ t, m ≤ t → t < z → dv T t ∈ B := fun t h1 h2 => by rw [hT]; exact dv_mid (P := P ++ [x]) (by simp; omega) (by simp; omega)
  have hcell : ∀ t, t < N → w.cell? ⟨b, t, none⟩ = some (.int .i64 (dv T t)) := fun t ht => by rw [hT]; exact H.dv (by rw [← hN]; exact ht)
  have hca : w.cell? ⟨b, a, none⟩ = some (.int .i64 x) := by
    have h : P ++ [x] ++ B ++ Q = P ++ x :: (B ++ Q) := by simp
    rw [h] at H
    exact H.at_ ha
  rw [← hN, ← hz, ← hm, ← ha]
  rw [← hN] at hl
  have HMO := Lib.hid hmono
  have HME := Lib.hid hmem
  have HCE := Lib.hid hcell
  have HC := Lib.hid C
  have HB := Lib.hid (And.intro hB (And.intro hx (And.intro hDx hD)))
  have HH := Lib.hid (And.intro H (And.intro hN (And.intro ha (And.intro hm (And.intro hz hT)))))
  have ham1 : a < m := by omega
  have ham2 : m ≤ a + 1 := by omega
  have hmz : m ≤ z := by omega
  have hzN : z ≤ N := by omega
  have w0 : wrap64 ((m : Int) - (a : Int)) = 1 := by rw [IntWalk.wrap64_in _ (by omega)]; omega
  have haN : (a : Int) < (N : Int) := by omega
  clear hmono hmem hcell C hB hx hDx hD H hN ha hm hz hT hNl
  go_enter Try.func57, Try.ntmps57
  go_wp2_with fail
  rw [show ((m : Int) - (a : Int) == 1) = true by rw [beq_iff_eq]; omega]
  go_loopw [10, 11] (BI w m z (fun t => K (dv T t) < K x)) (fun vi vj _ => (intOf vj).toNat - (intOf vi).toNat)
  case atStart => exact ⟨m, z, 0, rfl, rfl, BS.start _ hmz, rfl⟩
  case round =>
    obtain ⟨i, j, n, rfl, rfl, hbs, hwr⟩ := hrel
    have HW := Lib.hid hwr
    have h1 := hbs.le1
    have h2 := hbs.le2
    have h3 := hbs.le3
    have HS := Lib.hid hbs
    clear hbs
    by_cases hlt : i < j
    · have cm : wr.cell? ⟨b, (i + j) / 2, none⟩ = some (.int .i64 (dv T ((i + j) / 2))) := by rw [hwr]; simpa using HCE.out ((i + j) / 2) (by omega)
      have ca : wr.cell? ⟨b, a, none⟩ = some (.int .i64 x) := by rw [hwr]; simpa using hca
      have hM : Mod (one b) w wr := by rw [hwr]; exact (Mod.refl _ _).drewN n
      have hbN : (i + j) / 2 < N := by omega
      have hcm := HME.out ((i + j) / 2) (by omega) (by omega)
      obtain ⟨y, hy⟩ : ∃ y, y = dv T ((i + j) / 2) := ⟨_, rfl⟩
      rw [← hy] at cm hcm
      have hcall : ∀ n, Calls Try.prog g (#[.int .i64 y, .int .i64 x] ++ cb) (wr.drewN n) fun e w' => e = .returned (.int .i64 (cf y x)) ∧ ∃ m, w' = (wr.drewN n).drewN m := fun n => HC.out.call _ (hM.drewN n) y x (HB.out.2.2.2 y hcm) HB.out.2.2.1
      have hkey := HC.out.key y x (HB.out.2.2.2 y hcm) HB.out.2.2.1
      have eg := HC.out.enter
      have HY := Lib.hid hy
      have hbs1 := fun h => HS.out.up (pr := fun t => K (dv T t) < K x) HMO.out (c := (i + j) / 2) (by omega) (by omega) h
      have hbs2 := fun h => HS.out.down (pr := fun t => K (dv T t) < K x) HMO.out (c := (i + j) / 2) (by omega) (by omega) h
      rw [← hy] at hbs1 hbs2
      have HB1 := Lib.hid hbs1
      have HB2 := Lib.hid hbs2
      clear hcm hy hM hwr hca hbs1 hbs2
      by_cases hc : cf y x < 0
      · have hxy := Lib.hid (hkey.1 hc)
        have hd : decide (cf y x < 0) = true := decide_eq_true hc
        clear hkey
        go_wp2_with fail
        go_quiet (first | (go_at_fn g; refine Calls.quiet_of (hcall _)))
        go_wp2
        go_roundw
        case rel => exact ⟨(i + j) / 2 + 1, j, n + nq, by first | rfl | (congr 1; omega), rfl, HB1.out hxy.out, by first | rfl | rw [HW.out, World.drewN_drewN]⟩
        case measure => simp only [intOf]; omega
      · have hxy := Lib.hid (show ¬ K y < K x from fun h => hc (hkey.2 h))
        have hd : decide (cf y x < 0) = false := decide_eq_false hc
        clear hkey
        go_wp2_with fail
        go_quiet (first | (go_at_fn g; refine Calls.quiet_of (hcall _)))
        go_wp2
        go_roundw
        case rel => exact ⟨i, (i + j) / 2, n + nq, rfl, by first | rfl | (congr 1; omega), HB2.out hxy.out, by first | rfl | rw [HW.out, World.drewN_drewN]⟩
        case measure => simp only [intOf]; omega
    · obtain rfl : i = j := by omega
      obtain ⟨B1, hB1⟩ : ∃ B1, B1 = B.take (i - m) := ⟨_, rfl⟩
      obtain ⟨B2, hB2⟩ : ∃ B2, B2 = B.drop (i - m) := ⟨_, rfl⟩
      have hBB : B = B1 ++ B2 := by rw [hB1, hB2, List.take_append_drop]
      have hlen1 : B1.length = i - m := by rw [hB1, List.length_take]; have h1 := HH.out.2.2.2.1; have h2 := HH.out.2.2.2.2.1; omega
      have hsrt : Srt K (B1 ++ x :: B2) := by
        have hTT : T = (P ++ [x]) ++ B ++ Q := HH.out.2.2.2.2.2
        have hPm : (P ++ [x]).length = m := by rw [List.length_append, HH.out.2.2.2.1]; rfl
        have hzl := HH.out.2.2.2.2.1
        refine merge_left (by rw [← hBB]; exact HB.out.1) (fun y hy => ?_) (fun y hy => ?_)
        · rw [hB1] at hy
          obtain ⟨t, t1, t2, rfl⟩ := mem_take_dv (P := P ++ [x]) (Q := Q) (by have h1 := HH.out.2.2.2.1; omega) hy
          rw [← hTT]
          exact HS.out.lt t (by omega) (by omega)
        · have hyB : y ∈ B := by rw [hBB]; exact List.mem_append_right _ hy
          rw [hB2] at hy
          obtain ⟨t, t1, t2, rfl⟩ := mem_drop_dv (P := P ++ [x]) (Q := Q) hy
          have hge := HS.out.ge t (by omega) (by have h1 := HH.out.2.2.2.1; omega)
          rw [hTT] at hge
          rcases Int.lt_or_le (K x) (K (dv (P ++ [x] ++ B ++ Q) t)) with c | c
          · exact .inl c
          · exact .inr ⟨by omega, HB.out.2.1 _ hyB⟩
      have hend : i = a + 1 + B1.length := by omega
      have HE := Lib.hid (And.intro hsrt (And.intro hBB hend))
      have HJ := Lib.hid (show S1 w b P B1 B2 Q x R (.int .i64 (a : Int)) wr from ⟨a, [], B1, rfl, HH.out.2.2.1.symm, rfl, by rw [hwr]; have h := IB.drewN HH.out.1 n; rw [hBB] at h; simpa using h, by rw [hwr]; exact (Mod.refl _ _).drewN n⟩)
      have w9 : wrap64 ((i : Int) - 1) = ((i - 1 : Nat) : Int) := by rw [IntWalk.wrap64_in _ (by omega)]; omega
      clear hB1 hB2 hBB hlen1 hsrt hend hwr hca
      go_wp2_with fail
      go_loopw [13] (fun v wr2 => S1 w b P B1 B2 Q x R v wr2) (fun v _ => i - (intOf v).toNat)
      case atStart => exact HJ.out
      case round =>
        clear HJ
        obtain ⟨k, X, Y, hXY, hk, rfl, hib, hM⟩ := hrel
        have HM := Lib.hid hM
        have HBk := Lib.hid hib
        have HX := Lib.hid (And.intro hXY hk)
        have hki : k + 1 + Y.length = i := by have h1 := HE.out.2.2; rw [hXY, List.length_append] at h1; have h2 := HH.out.2.2.1; omega
        clear hM hib hXY hk
        cases Y with
        | nil =>
          have g1 : ¬ (k : Int) < (i : Int) - 1 := by simp at hki; omega
          have g2 : ¬ (k : Int) < ((i - 1 : Nat) : Int) := by simp at hki; omega
          go_wp2_with fail
          refine bodyPost_ret (results_none rfl _ _ _) rfl ?_
          refine ⟨rfl, B1 ++ x :: B2, by rw [HE.out.2.1]; exact List.perm_middle, HE.out.1, ?_, HM.out⟩
          have h := HBk.out
          have h1 := HX.out.1
          rw [List.append_nil] at h1
          rw [← h1] at h
          simpa using h
        | cons y Y =>
          have e1 : P ++ (X ++ x :: y :: Y) ++ B2 ++ Q = (P ++ X) ++ x :: ([] ++ y :: (Y ++ B2 ++ Q)) := by simp
          have e2 : P ++ (X ++ x :: y :: Y) ++ B2 ++ Q = (P ++ X ++ [x]) ++ y :: (Y ++ B2 ++ Q) := by simp
          have e3 : (P ++ X) ++ y :: ([] ++ x :: (Y ++ B2 ++ Q)) = P ++ ((X ++ [y]) ++ x :: Y) ++ B2 ++ Q := by simp
          have hkX : k = (P ++ X).length := by rw [List.length_append]; exact HX.out.2.symm
          have hb := HBk.out
          rw [e1] at hb
          obtain ⟨q, hq⟩ : ∃ q, q = k + 1 := ⟨_, rfl⟩
          have ck : wr.cell? ⟨b, k, none⟩ = some (.int .i64 x) := hb.at_ hkX
          have cq : wr.cell? ⟨b, q, none⟩ = some (.int .i64 y) := by
            have h := HBk.out
            rw [e2] at h
            exact h.at_ (by rw [List.length_append, ← hkX]; exact hq)
          have r1 := hb.free k
          have r2 := hb.free q
          have hne : k ≠ q := by omega
          have hsw := hb.swap hkX (j := q) (by rw [hq, hkX]; rfl)
          have hE2 := Lib.hid (show IB ((wr.setCell ⟨b, k, none⟩ (.int .i64 y)).setCell ⟨b, q, none⟩ (.int .i64 x)) b (P ++ ((X ++ [y]) ++ x :: Y) ++ B2 ++ Q) R by rw [← e3]; exact hsw)
          have hki2 : q + 1 + Y.length = i := by rw [List.length_cons] at hki; omega
          obtain ⟨g1, g2, w4, bk, bq, n1, n2⟩ := kfacts hq hki2 h3 hzN hl
          have HQ := Lib.hid (And.intro hq hki2)
          clear e1 e2 e3 hkX hb hsw hki hki2
          subst hq
          clear w4
          go_wp2_with fail
          go_region
          go_wp2
          go_roundw
          case rel => exact ⟨k + 1, X ++ [y], Y, by rw [HX.out.1]; simp, by rw [List.length_append, ← Nat.add_assoc, HX.out.2]; rfl, by first | rfl | go_num, hE2.out.drew, (mod_swap HM.out _ _ _ _).drew⟩
          case measure =>
            exact meask rfl HQ.out.2
end Go.Proofs.Ytoncjoelkenjnaa.SS
