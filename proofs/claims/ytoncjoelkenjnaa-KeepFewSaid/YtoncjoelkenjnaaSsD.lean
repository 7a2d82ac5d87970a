/- slices.SortStableFunc at []int: symMerge where the right row has one element. -/
import Derived.Test.YtoncjoelkenjnaaSsC
namespace Go.Proofs.Ytoncjoelkenjnaa.SS
open Go.RowKit Mem
set_option linter.unusedVariables false
set_option linter.unusedSimpArgs false

theorem kfacts2 {k q i m N : Nat} (h : q + 1 = k) (h1 : i < k) (h2 : k ≤ m) (h3 : m < N) (h5 : N ≤ 1048600) : (i : Int) < (k : Int) ∧ wrap64 ((k : Int) - 1) = (q : Int) ∧ IntKind.i64.wrap ((k : Int) - 1) = (q : Int) ∧ (k : Int) < (N : Int) ∧ (q : Int) < (N : Int) ∧ ¬ (k : Int) < 0 ∧ ¬ (q : Int) < 0 ∧ k ≠ q :=
  ⟨by omega, by rw [IntWalk.wrap64_in _ (by omega)]; omega, by rw [IntKind.wrap_i64]; omega, by omega, by omega, by omega, by omega, by omega⟩
theorem meask2 {k q i : Nat} (h : q + 1 = k) (h2 : i < k) : (intOf (.int .i64 (q : Int))).toNat - i < (intOf (.int .i64 (k : Int))).toNat - i := by
  simp only [intOf]
  omega
/-- The loop that carries the one leftwards. -/
def S2 (w : World) (b : Nat) (P A1 A2 Q : List Int) (y : Int) (R : List Value) (v : Value) (wr : World) : Prop := ∃ (k : Nat) (X Y : List Int), A2 = X ++ Y ∧ P.length + A1.length + X.length = k ∧ v = .int .i64 (k : Int) ∧ IB wr b (P ++ A1 ++ (X ++ y :: Y) ++ Q) R ∧ Mod (one b) w wr
set_option maxRecDepth 100000 in
set_option maxHeartbeats 2000000 in
theorem sym2_any {K : Int → Int} {cf : Int → Int → Int} {D : Int → Prop} {g : Nat} {cb : Array Value} {w : World} {b c : Nat} {P A Q : List Int} {y : Int} {R : List Value} (C : CmpOK K cf D g cb b w) (hA1 : A.length ≠ 1) (H : IB w b (P ++ A ++ [y] ++ Q) R) (hl : (P ++ A ++ [y] ++ Q).length ≤ 1048600) (hA : Srt K A) (hx : ∀ x ∈ A, x < y) (hDy : D y) (hD : ∀ x ∈ A, D x) :
    Calls Try.prog 57 #[.slice (some ⟨b, 0, none⟩) (P ++ A ++ [y] ++ Q).length c, .int .i64 (P.length : Int), .int .i64 ((P.length + A.length : Nat) : Int), .int .i64 ((P.length + A.length + 1 : Nat) : Int), .func (.func g) #[] cb] w fun e w' => e = .returned (.tuple #[]) ∧ ∃ M, M.Perm (A ++ [y]) ∧ Srt K M ∧ IB w' b (P ++ M ++ Q) R ∧ Mod (one b) w w' := by
  obtain ⟨N, hN⟩ : ∃ N, N = (P ++ A ++ [y] ++ Q).length := ⟨_, rfl⟩
  obtain ⟨a, ha⟩ : ∃ a, a = P.length := ⟨_, rfl⟩
  obtain ⟨m, hm⟩ : ∃ m, m = P.length + A.length := ⟨_, rfl⟩
  obtain ⟨z, hz⟩ : ∃ z, z = P.length + A.length + 1 := ⟨_, rfl⟩
  obtain ⟨T, hT⟩ : ∃ T, T = P ++ A ++ ([y] ++ Q) := ⟨_, rfl⟩
  have hTT : P ++ A ++ [y] ++ Q = T := by rw [hT]; simp
  have hNl : N = z + Q.length := by rw [hN, hz]; simp only [List.length_append, List.length_singleton]
  have hmono : ∀ s t, a ≤ s → s < t → t < m → K (dv T t) ≤ K y → K (dv T s) ≤ K y := fun s t h1 h2 h3 h4 => by
    have h := (dv_srt (P := P) (Q := [y] ++ Q) hA (s := s) (t := t) (by omega) h2 (by omega)).le
    rw [hT] at h4 ⊢
    omega
  have hmem : ∀ t, a ≤ t → t < m → dv T t ∈ A := fun t h1 h2 => by rw [hT]; exact dv_mid (P := P) (by omega) (by omega)
  have hcell : ∀ t, t < N → w.cell? ⟨b, t, none⟩ = some (.int .i64 (dv T t)) := fun t ht => by rw [← hTT]; exact H.dv (by rw [← hN]; exact ht)
  have hcm : w.cell? ⟨b, m, none⟩ = some (.int .i64 y) := by
    have h : P ++ A ++ [y] ++ Q = (P ++ A) ++ y :: Q := by simp
    rw [h] at H
    exact H.at_ (by rw [List.length_append]; exact hm)
  rw [← hN, ← hz, ← hm, ← ha]
  rw [← hN] at hl
  have HMO := Lib.hid hmono
  have HME := Lib.hid hmem
  have HCE := Lib.hid hcell
  have HC := Lib.hid C
  have HB := Lib.hid (And.intro hA (And.intro hx (And.intro hDy hD)))
  have HH := Lib.hid (And.intro H (And.intro hN (And.intro ha (And.intro hm (And.intro hz hT)))))
  have hmz1 : m < z := by omega
  have hmz2 : z ≤ m + 1 := by omega
  have ham : a ≤ m := by omega
  have hma1 : m ≠ a + 1 := by omega
  have hmN : m < N := by omega
  have e0 : ((m : Int) - (a : Int) == 1) = false := by rw [beq_eq_false_iff_ne]; omega
  have w0 : wrap64 ((m : Int) - (a : Int)) = (m : Int) - (a : Int) := by rw [IntWalk.wrap64_in _ (by omega)]
  have w00 : wrap64 ((z : Int) - (m : Int)) = 1 := by rw [IntWalk.wrap64_in _ (by omega)]; omega
  have hmNi : (m : Int) < (N : Int) := by omega
  have HMA := Lib.hid hma1
  clear hmono hmem hcell C hA hx hDy hD H hN ha hm hz hT hNl hTT hma1 hA1
  go_enter Try.func57, Try.ntmps57
  go_wp2_with fail
  rw [show ((z : Int) - (m : Int) == 1) = true by rw [beq_iff_eq]; omega]
  go_loopw [14, 15] (BI w a m (fun t => K (dv T t) ≤ K y)) (fun vi vj _ => (intOf vj).toNat - (intOf vi).toNat)
  case atStart => exact ⟨a, m, 0, rfl, rfl, BS.start _ ham, rfl⟩
  case round =>
    obtain ⟨i, j, n, rfl, rfl, hbs, hwr⟩ := hrel
    have HW := Lib.hid hwr
    have h1 := hbs.le1
    have h2 := hbs.le2
    have h3 := hbs.le3
    have HS := Lib.hid hbs
    clear hbs
    by_cases hlt : i < j
    · have cm : wr.cell? ⟨b, (i + j) / 2, none⟩ = some (.int .i64 (dv T ((i + j) / 2))) := by rw [hwr]; simpa using HCE.out ((i + j) / 2) (by omega)
      have ca : wr.cell? ⟨b, m, none⟩ = some (.int .i64 y) := by rw [hwr]; simpa using hcm
      have hM : Mod (one b) w wr := by rw [hwr]; exact (Mod.refl _ _).drewN n
      have hbN : (i + j) / 2 < N := by omega
      have hcx := HME.out ((i + j) / 2) (by omega) (by omega)
      obtain ⟨x, hy⟩ : ∃ x, x = dv T ((i + j) / 2) := ⟨_, rfl⟩
      rw [← hy] at cm hcx
      have hcall : ∀ n, Calls Try.prog g (#[.int .i64 y, .int .i64 x] ++ cb) (wr.drewN n) fun e w' => e = .returned (.int .i64 (cf y x)) ∧ ∃ m, w' = (wr.drewN n).drewN m := fun n => HC.out.call _ (hM.drewN n) y x HB.out.2.2.1 (HB.out.2.2.2 x hcx)
      have hkey := HC.out.key y x HB.out.2.2.1 (HB.out.2.2.2 x hcx)
      have eg := HC.out.enter
      have HY := Lib.hid hy
      have hbs1 := fun h => HS.out.up (pr := fun t => K (dv T t) ≤ K y) HMO.out (c := (i + j) / 2) (by omega) (by omega) h
      have hbs2 := fun h => HS.out.down (pr := fun t => K (dv T t) ≤ K y) HMO.out (c := (i + j) / 2) (by omega) (by omega) h
      rw [← hy] at hbs1 hbs2
      have HB1 := Lib.hid hbs1
      have HB2 := Lib.hid hbs2
      clear hcx hy hM hwr hcm hbs1 hbs2
      by_cases hc : cf y x < 0
      · have hxy := Lib.hid (show ¬ (K x ≤ K y) from fun h => by have := hkey.1 hc; omega)
        have hd : decide (cf y x < 0) = true := decide_eq_true hc
        clear hkey
        go_wp2_with fail
        go_quiet (first | (go_at_fn g; refine Calls.quiet_of (hcall _)))
        go_wp2
        go_roundw
        case rel => exact ⟨i, (i + j) / 2, n + nq, rfl, by first | rfl | (congr 1; omega), HB2.out hxy.out, by first | rfl | rw [HW.out, World.drewN_drewN]⟩
        case measure => simp only [intOf]; omega
      · have hxy := Lib.hid (show K x ≤ K y from Int.not_lt.1 (fun h => hc (hkey.2 h)))
        have hd : decide (cf y x < 0) = false := decide_eq_false hc
        clear hkey
        go_wp2_with fail
        go_quiet (first | (go_at_fn g; refine Calls.quiet_of (hcall _)))
        go_wp2
        go_roundw
        case rel => exact ⟨(i + j) / 2 + 1, j, n + nq, by first | rfl | (congr 1; omega), rfl, HB1.out hxy.out, by first | rfl | rw [HW.out, World.drewN_drewN]⟩
        case measure => simp only [intOf]; omega
    · obtain rfl : i = j := by omega
      obtain ⟨A1, hB1⟩ : ∃ A1, A1 = A.take (i - a) := ⟨_, rfl⟩
      obtain ⟨A2, hB2⟩ : ∃ A2, A2 = A.drop (i - a) := ⟨_, rfl⟩
      have hBB : A = A1 ++ A2 := by rw [hB1, hB2, List.take_append_drop]
      have hlen1 : A1.length = i - a := by rw [hB1, List.length_take]; have h1 := HH.out.2.2.1; have h2 := HH.out.2.2.2.1; omega
      have hsrt : Srt K (A1 ++ y :: A2) := by
        have hTT : T = P ++ A ++ ([y] ++ Q) := HH.out.2.2.2.2.2
        have hPm : P.length = a := HH.out.2.2.1.symm
        have hzl := HH.out.2.2.2.1
        refine merge_right (by rw [← hBB]; exact HB.out.1) (fun x hy => ?_) (fun x hy => ?_)
        · have hyB : x ∈ A := by rw [hBB]; exact List.mem_append_left _ hy
          rw [hB1] at hy
          obtain ⟨t, t1, t2, rfl⟩ := mem_take_dv (P := P) (Q := [y] ++ Q) (by omega) hy
          have hlt2 := HS.out.lt t (by omega) (by omega)
          rw [hTT] at hlt2
          rcases Int.lt_or_le (K (dv (P ++ A ++ ([y] ++ Q)) t)) (K y) with c | c
          · exact .inl c
          · exact .inr ⟨by omega, HB.out.2.1 _ hyB⟩
        · rw [hB2] at hy
          obtain ⟨t, t1, t2, rfl⟩ := mem_drop_dv (P := P) (Q := [y] ++ Q) hy
          have hge := HS.out.ge t (by omega) (by omega)
          rw [hTT] at hge
          exact Int.not_le.1 hge
      have hend : i = a + A1.length := by omega
      have hmA : m = i + A2.length := by have h := congrArg List.length hBB; rw [List.length_append] at h; have h2 := HH.out.2.2.2.1; have h3 := HH.out.2.2.1; omega
      have HE := Lib.hid (And.intro hsrt (And.intro hBB (And.intro hend hmA)))
      have HJ := Lib.hid (show S2 w b P A1 A2 Q y R (.int .i64 (m : Int)) wr from ⟨m, A2, [], by simp, by have h3 := HH.out.2.2.1; omega, rfl, by rw [hwr]; have h := IB.drewN HH.out.1 n; rw [hBB] at h; simpa using h, by rw [hwr]; exact (Mod.refl _ _).drewN n⟩)
      clear hB1 hB2 hBB hlen1 hsrt hend hwr hcm hmA
      go_wp2_with fail
      go_loopw [17] (fun v wr2 => S2 w b P A1 A2 Q y R v wr2) (fun v _ => (intOf v).toNat - i)
      case atStart => exact HJ.out
      case round =>
        clear HJ
        obtain ⟨k, X, Y, hXY, hk, rfl, hib, hM⟩ := hrel
        have HM := Lib.hid hM
        have HBk := Lib.hid hib
        have HX := Lib.hid (And.intro hXY hk)
        have hki : k = i + X.length := by have h1 := HE.out.2.2.1; have h2 := HH.out.2.2.1; omega
        have hkm : k ≤ m := by have h1 := HE.out.2.2.2; rw [hXY, List.length_append] at h1; omega
        clear hM hib hXY hk
        rcases List.eq_nil_or_concat X with hX0 | ⟨X', v, hX0⟩
        · have hki' : k = i := by rw [hX0] at hki; simpa using hki
          clear hki
          subst hki'
          go_wp2_with fail
          refine bodyPost_ret (results_none rfl _ _ _) rfl ?_
          have h1 := HX.out.1
          rw [hX0, List.nil_append] at h1
          refine ⟨rfl, A1 ++ y :: A2, ?_, HE.out.1, ?_, HM.out⟩
          · rw [HE.out.2.1, List.append_assoc]
            exact List.Perm.append_left A1 (List.perm_append_singleton y A2).symm
          · have h := HBk.out
            rw [hX0, List.nil_append, ← h1] at h
            simpa using h
        · rw [List.concat_eq_append] at hX0
          obtain ⟨q, hq⟩ : ∃ q, q = i + X'.length := ⟨_, rfl⟩
          have hqk : q + 1 = k := by rw [hki, hX0, List.length_append, hq]; simp; omega
          have hik : i < k := by omega
          have e1 : P ++ A1 ++ (X ++ y :: Y) ++ Q = (P ++ A1 ++ X') ++ v :: y :: (Y ++ Q) := by rw [hX0]; simp
          have e2 : P ++ A1 ++ (X ++ y :: Y) ++ Q = (P ++ A1 ++ X' ++ [v]) ++ y :: (Y ++ Q) := by rw [hX0]; simp
          have hqX : q = (P ++ A1 ++ X').length := by rw [List.length_append, List.length_append, hq]; have h1 := HE.out.2.2.1; have h2 := HH.out.2.2.1; omega
          have hb := HBk.out
          rw [e1] at hb
          have cq : wr.cell? ⟨b, q, none⟩ = some (.int .i64 v) := hb.at_ hqX
          have ck : wr.cell? ⟨b, k, none⟩ = some (.int .i64 y) := by
            have h := HBk.out
            rw [e2] at h
            exact h.at_ (by rw [List.length_append, ← hqX]; exact hqk.symm)
          have r1 := hb.free k
          have r2 := hb.free q
          have hE2 := Lib.hid (show IB ((wr.setCell ⟨b, k, none⟩ (.int .i64 v)).setCell ⟨b, q, none⟩ (.int .i64 y)) b (P ++ A1 ++ (X' ++ y :: (v :: Y)) ++ Q) R by have h := hb.swapr hqX hqk; simpa using h)
          obtain ⟨g1, w4, w5, bk, bq, n1, n2, hne⟩ := kfacts2 hqk hik hkm hmN hl
          have HQ := Lib.hid (And.intro hqk (And.intro hik (And.intro hX0 (And.intro hq hkm))))
          clear e1 e2 hqX hb hqk hik hq hki hkm hX0
          go_wp2_with fail
          go_region
          go_wp2
          go_roundw
          case rel => exact ⟨q, X', v :: Y, by rw [HX.out.1, HQ.out.2.2.1]; simp, by have h1 := HE.out.2.2.1; have h2 := HH.out.2.2.1; have h3 := HQ.out.2.2.2.1; omega, by first | rfl | go_num, hE2.out.drew, (mod_swap HM.out _ _ _ _).drew⟩
          case measure => exact meask2 HQ.out.1 HQ.out.2.1
end Go.Proofs.Ytoncjoelkenjnaa.SS
