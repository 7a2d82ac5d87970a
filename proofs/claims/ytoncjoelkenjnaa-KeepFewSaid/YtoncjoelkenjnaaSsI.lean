/- slices.SortStableFunc at []int: symMerge where both rows have two elements or more, the left row being the longer. Printed by wip/tools/sym3.py. -/
import Derived.Test.YtoncjoelkenjnaaSsF
namespace Go.Proofs.Ytoncjoelkenjnaa.SS
open Go.RowKit Mem
set_option linter.unusedVariables false
set_option linter.unusedSimpArgs false

set_option maxRecDepth 100000 in
set_option maxHeartbeats 40000000 in
theorem sym3a_any {K : Int → Int} {cf : Int → Int → Int} {D : Int → Prop} {g : Nat} {cb : Array Value} {b c len : Nat} {R : List Value} (ih : Sym K cf D g cb b c R len) {w : World} {P A B Q : List Int} (hlen : A.length + B.length ≤ len + 1) (C : CmpOK K cf D g cb b w) (hcase : (P.length + (P.length + A.length + B.length)) / 2 < P.length + A.length) (hA2 : 2 ≤ A.length) (hB2 : 2 ≤ B.length) (H : IB w b (P ++ A ++ B ++ Q) R) (hl : (P ++ A ++ B ++ Q).length ≤ 1048600) (hA : Srt K A) (hB : Srt K B) (hAB : ∀ x ∈ A, ∀ y ∈ B, x < y) (hDA : ∀ x ∈ A, D x) (hDB : ∀ y ∈ B, D y) :
    Calls Try.prog 57 #[.slice (some ⟨b, 0, none⟩) (P ++ A ++ B ++ Q).length c, .int .i64 (P.length : Int), .int .i64 ((P.length + A.length : Nat) : Int), .int .i64 ((P.length + A.length + B.length : Nat) : Int), .func (.func g) #[] cb] w fun e w' => e = .returned (.tuple #[]) ∧ ∃ M, M.Perm (A ++ B) ∧ Srt K M ∧ IB w' b (P ++ M ++ Q) R ∧ Mod (one b) w w' := by
  obtain ⟨N, hN⟩ : ∃ N, N = (P ++ A ++ B ++ Q).length := ⟨_, rfl⟩
  obtain ⟨a, ha⟩ : ∃ a, a = P.length := ⟨_, rfl⟩
  obtain ⟨m, hm⟩ : ∃ m, m = P.length + A.length := ⟨_, rfl⟩
  obtain ⟨z, hz⟩ : ∃ z, z = P.length + A.length + B.length := ⟨_, rfl⟩
  obtain ⟨T, hT⟩ : ∃ T, T = P ++ A ++ B ++ Q := ⟨_, rfl⟩
  have hNl : N = z + Q.length := by rw [hN, hz]; simp only [List.length_append]
  have hcell : ∀ t, t < N → w.cell? ⟨b, t, none⟩ = some (.int .i64 (dv T t)) := fun t ht => by rw [hT]; exact H.dv (by rw [← hN]; exact ht)
  rw [← hz, ← hm, ← ha] at hcase
  rw [← hN, ← hz, ← hm, ← ha]
  rw [← hN] at hl
  have HCE := Lib.hid hcell
  have HC := Lib.hid C
  have HB := Lib.hid (And.intro hA (And.intro hB (And.intro hAB (And.intro hDA hDB))))
  have hm' : m = a + A.length := by rw [ha]; exact hm
  have hz' : z = m + B.length := by rw [hm]; exact hz
  have HH := Lib.hid (And.intro H (And.intro hN (And.intro ha (And.intro hm' (And.intro hz' hT)))))
  have HL := Lib.hid (And.intro hlen (And.intro hA2 hB2))
  have ham : a + 2 ≤ m := by omega
  have hmz : m + 2 ≤ z := by omega
  have hzN : z ≤ N := by omega
  have hmem : ∀ t, a ≤ t → t < m → dv T t ∈ A := fun t h1 h2 => by rw [hT, List.append_assoc (P ++ A)]; exact dv_mid (P := P) (by omega) (by omega)
  have hmem2 : ∀ t, m ≤ t → t < z → dv T t ∈ B := fun t h1 h2 => by rw [hT]; exact dv_mid (P := P ++ A) (by rw [List.length_append]; omega) (by rw [List.length_append]; omega)
  have HME := Lib.hid (And.intro hmem hmem2)
  have HIH := Lib.hid ih
  clear hcell C hA hB hAB hDA hDB H hN ha hm hz hT hNl hlen hA2 hB2 hm' hz' hmem hmem2 ih
  obtain ⟨mid, hmid⟩ : ∃ mid, mid = (a + z) / 2 := ⟨_, rfl⟩
  obtain ⟨hd0, hd1, e0, e1, hd3, hd4, hd5⟩ := nfacts ham hmz hzN hl hmid
  obtain ⟨wm, wp⟩ := wfacts hd4 hd5 (z := z) (by omega)
  have hd2 : ((a + z) / 2 : Nat) = mid := hmid.symm
  have HM3 := Lib.hid hmid
  have HM4 := Lib.hid (show a + 2 ≤ mid ∧ mid + 2 ≤ z from ⟨by omega, by omega⟩)
  rw [← hmid] at hcase
  clear hmid
  obtain ⟨hsr, hsz⟩ := sr1 ham hmz HM3.out hcase
  have HR := Lib.hid hsr
  have HSZ := Lib.hid hsz
  have HMO := Lib.hid (show ∀ s t, mid + m - z ≤ s → s < t → t < mid → pr3 K T (mid + m - 1) t → pr3 K T (mid + m - 1) s by rw [HH.out.2.2.2.2.2]; exact mono3 HH.out.2.2.1 HH.out.2.2.2.1 HH.out.2.2.2.2.1 HB.out.1 HB.out.2.1 hsr)
  have gg : (mid : Int) < (m : Int) := by omega
  clear hsr hsz
  go_enter Try.func57, Try.ntmps57
  go_wp2_with fail
  go_loopw [20, 21] (BI w (mid + m - z) mid (pr3 K T (mid + m - 1))) (fun vi vj _ => (intOf vj).toNat - (intOf vi).toNat)
  case atStart => exact ⟨(mid + m - z), mid, 0, by rw [HSZ.out], rfl, BS.start _ HR.out.facts.2.1, rfl⟩
  case round =>
    obtain ⟨i, j, n, rfl, rfl, hbs, hwr⟩ := hrel
    have HW := Lib.hid hwr
    have h1 := hbs.le1
    have h2 := hbs.le2
    have h3 := hbs.le3
    have HS := Lib.hid hbs
    clear hbs
    by_cases hlt : i < j
    · obtain ⟨c1, c2, c3, c4, ⟨w5, w6⟩, n5, b5, c6, c7, c8, c9⟩ := cfacts hlt h1 h3 HR.out rfl hzN hl
      have cm : wr.cell? ⟨b, (i + j) / 2, none⟩ = some (.int .i64 (dv T ((i + j) / 2))) := by rw [hwr]; simpa using HCE.out ((i + j) / 2) c1
      have cq : wr.cell? ⟨b, mid + m - 1 - (i + j) / 2, none⟩ = some (.int .i64 (dv T (mid + m - 1 - (i + j) / 2))) := by rw [hwr]; simpa using HCE.out (mid + m - 1 - (i + j) / 2) c2
      have hM : Mod (one b) w wr := by rw [hwr]; exact (Mod.refl _ _).drewN n
      have hcx := HME.out.1 ((i + j) / 2) c6 c7
      have hcy := HME.out.2 (mid + m - 1 - (i + j) / 2) c8 c9
      obtain ⟨x, hx⟩ : ∃ x, x = dv T ((i + j) / 2) := ⟨_, rfl⟩
      obtain ⟨y, hy⟩ : ∃ y, y = dv T (mid + m - 1 - (i + j) / 2) := ⟨_, rfl⟩
      rw [← hx] at cm hcx
      rw [← hy] at cq hcy
      have hcall : ∀ n, Calls Try.prog g (#[.int .i64 y, .int .i64 x] ++ cb) (wr.drewN n) fun e w' => e = .returned (.int .i64 (cf y x)) ∧ ∃ m, w' = (wr.drewN n).drewN m := fun n => HC.out.call _ (hM.drewN n) y x (HB.out.2.2.2.2 y hcy) (HB.out.2.2.2.1 x hcx)
      have hkey := HC.out.key y x (HB.out.2.2.2.2 y hcy) (HB.out.2.2.2.1 x hcx)
      have eg := HC.out.enter
      have hbs1 := fun h => HS.out.up (pr := pr3 K T (mid + m - 1)) HMO.out (c := (i + j) / 2) c3 c4 h
      have hbs2 := fun h => HS.out.down (pr := pr3 K T (mid + m - 1)) HMO.out (c := (i + j) / 2) c3 c4 h
      unfold pr3 at hbs1 hbs2
      rw [← hx, ← hy] at hbs1 hbs2
      have HB1 := Lib.hid hbs1
      have HB2 := Lib.hid hbs2
      obtain ⟨q, hq⟩ : ∃ q, q = mid + m - 1 - (i + j) / 2 := ⟨_, rfl⟩
      rw [← hq] at cq w5 w6 n5 b5 c2
      clear hcx hcy hx hy hM hwr hbs1 hbs2 c3 c4 c6 c7 c8 c9 hq
      by_cases hc : cf y x < 0
      · have hxy := Lib.hid (show ¬ (K x ≤ K y) from fun h => by have := hkey.1 hc; omega)
        have hd : decide (cf y x < 0) = true := decide_eq_true hc
        clear hkey
        go_wp2_with fail
        go_quiet (first | (go_at_fn g; refine Calls.quiet_of (hcall _)))
        go_wp2
        go_roundw
        case rel => exact ⟨i, (i + j) / 2, n + nq, rfl, by first | rfl | (congr 1; omega), HB2.out hxy.out, by first | rfl | rw [HW.out, World.drewN_drewN]⟩
        case measure => simp only [intOf]; omega
      · have hxy := Lib.hid (show K x ≤ K y from Int.not_lt.1 (fun h => hc (hkey.2 h)))
        have hd : decide (cf y x < 0) = false := decide_eq_false hc
        clear hkey
        go_wp2_with fail
        go_quiet (first | (go_at_fn g; refine Calls.quiet_of (hcall _)))
        go_wp2
        go_roundw
        case rel => exact ⟨(i + j) / 2 + 1, j, n + nq, by first | rfl | (congr 1; omega), rfl, HB1.out hxy.out, by first | rfl | rw [HW.out, World.drewN_drewN]⟩
        case measure => simp only [intOf]; omega
    · obtain rfl : i = j := by omega
      obtain ⟨A1, A2, B1, B2, hcut⟩ := cut_any HH.out.2.2.1 HH.out.2.2.2.1 HH.out.2.2.2.2.1 HB.out.1 HB.out.2.1 HB.out.2.2.1 HR.out (by rw [← HH.out.2.2.2.2.2]; exact HS.out)
      obtain ⟨e, he⟩ : ∃ e, e = mid + m - i := ⟨_, rfl⟩
      have htl := tl_any (Q := Q) (P := P) HIH.out HH.out.2.1 HL.out.1 HC.out HL.out.2.1 HL.out.2.2 hl HB.out.1 HB.out.2.1 HB.out.2.2.1 HB.out.2.2.2.1 HB.out.2.2.2.2 HH.out.2.2.1 HM3.out HH.out.2.2.2.1 HH.out.2.2.2.2.1 hcut
      rw [← he] at htl
      obtain ⟨f1, f2, f3, f4, f5, f6, hpat, w7, w8⟩ := pfacts he (Nat.le_trans hzN hl) hd1 HL.out.2.1 HL.out.2.2 HM4.out.1 HM4.out.2 hcut
      have hib := IB.drewN HH.out.1 n
      rw [hcut.eA, hcut.eB, ← hwr] at hib
      have hmo : Mod (one b) w wr := by rw [hwr]; exact (Mod.refl _ _).drewN n
      have HIB := Lib.hid hib
      have HMO2 := Lib.hid hmo
      have HTL := Lib.hid htl
      have HF := Lib.hid (And.intro f1 (And.intro f2 (And.intro f3 (And.intro f4 (And.intro f5 f6)))))
      clear hcut he htl f1 f2 f3 f4 f5 f6 hib hmo hwr h1 h2 h3 hlt
      rcases hpat with ⟨p1, p2, p3, p4⟩ | ⟨p1, p2, p3, p4⟩ | ⟨p1, p2, p3, p4⟩ | ⟨p1, p2, p3, p4⟩ | ⟨p1, p2, p3, p4⟩ | ⟨p1, p2, p3, p4⟩ | ⟨p1, p2, p3, p4⟩
      · have g1 := (HF.out.1).2 p3
        have g2 := (HF.out.2.1).2 p2
        have g3 := (HF.out.2.2.1).2 p1
        have g4 := (HF.out.2.2.2.1).2 p2
        have g5 := (HF.out.2.2.2.2.1).2 p3
        have g6 := (HF.out.2.2.2.2.2).2 p4
        have HP := Lib.hid (And.intro p1 (And.intro p2 (And.intro p3 p4)))
        clear p1 p2 p3 p4
        go_wp2_with fail
        refine (HTL.out.c1 HP.out.2.2.1 HP.out.2.1 _ HIB.out HMO2.out).mono ?_
        rintro x w9 ⟨rfl, hb4, m4⟩
        have HE1 := Lib.hid hb4
        have HX1 := Lib.hid m4
        clear hb4 m4
        go_wp2_with fail
        refine (HTL.out.c2 HP.out.1 HP.out.2.1 _ HE1.out HX1.out).mono ?_
        rintro x w10 ⟨rfl, M1, hp1, hs1, hb4, m4⟩
        have HE2 := Lib.hid hb4
        have HX2 := Lib.hid m4
        have HP1 := Lib.hid (And.intro hp1 hs1)
        clear hb4 m4 hp1 hs1
        go_wp2_with fail
        refine (HTL.out.c3 HP.out.2.2.1 HP.out.2.2.2 _ _ HP1.out.1 HE2.out HX2.out).mono ?_
        rintro x w11 ⟨rfl, M2, hp2, hs2, hb4, m4⟩
        have HE3 := Lib.hid hb4
        have HX3 := Lib.hid m4
        have HP2 := Lib.hid (And.intro hp2 hs2)
        clear hb4 m4 hp2 hs2
        go_wp2_with fail
        all_goals (go_end0; have hfin := HTL.out.fin _ _ _ HP1.out.1 HP1.out.2 HP2.out.1 HP2.out.2 HE3.out HX3.out; first | exact ⟨rfl, hfin⟩ | (refine ⟨rfl, ?_⟩; simp only [List.append_assoc] at hfin ⊢; exact hfin))
      · have g1 := (HF.out.1).2 p3
        have g2 := (HF.out.2.1).2 p2
        have g3 := mt (HF.out.2.2.1).1 p1
        have g4 := (HF.out.2.2.2.1).2 p2
        have g5 := (HF.out.2.2.2.2.1).2 p3
        have g6 := (HF.out.2.2.2.2.2).2 p4
        have HP := Lib.hid (And.intro p1 (And.intro p2 (And.intro p3 p4)))
        clear p1 p2 p3 p4
        have HP1 := Lib.hid (And.intro (List.Perm.refl (A1 ++ B1)) (HTL.out.d2 (Or.inl (Nat.eq_zero_of_not_pos HP.out.1))))
        go_wp2_with fail
        refine (HTL.out.c1 HP.out.2.2.1 HP.out.2.1 _ HIB.out HMO2.out).mono ?_
        rintro x w9 ⟨rfl, hb4, m4⟩
        have HE1 := Lib.hid hb4
        have HX1 := Lib.hid m4
        clear hb4 m4
        go_wp2_with fail
        refine (HTL.out.c3 HP.out.2.2.1 HP.out.2.2.2 _ _ HP1.out.1 HE1.out HX1.out).mono ?_
        rintro x w11 ⟨rfl, M2, hp2, hs2, hb4, m4⟩
        have HE3 := Lib.hid hb4
        have HX3 := Lib.hid m4
        have HP2 := Lib.hid (And.intro hp2 hs2)
        clear hb4 m4 hp2 hs2
        go_wp2_with fail
        all_goals (go_end0; have hfin := HTL.out.fin _ _ _ HP1.out.1 HP1.out.2 HP2.out.1 HP2.out.2 HE3.out HX3.out; first | exact ⟨rfl, hfin⟩ | (refine ⟨rfl, ?_⟩; simp only [List.append_assoc] at hfin ⊢; exact hfin))
      · have g1 := (HF.out.1).2 p3
        have g2 := mt (HF.out.2.1).1 p2
        have g3 := (HF.out.2.2.1).2 p1
        have g4 := mt (HF.out.2.2.2.1).1 p2
        have g5 := (HF.out.2.2.2.2.1).2 p3
        have g6 := (HF.out.2.2.2.2.2).2 p4
        have HP := Lib.hid (And.intro p1 (And.intro p2 (And.intro p3 p4)))
        clear p1 p2 p3 p4
        have hE1 := HIB.out
        rw [HTL.out.d1 (Or.inr (Nat.eq_zero_of_not_pos HP.out.2.1))] at hE1
        have HE1 := Lib.hid hE1
        have HX1 := HMO2
        clear hE1
        have HP1 := Lib.hid (And.intro (List.Perm.refl (A1 ++ B1)) (HTL.out.d2 (Or.inr (Nat.eq_zero_of_not_pos HP.out.2.1))))
        go_wp2_with fail
        refine (HTL.out.c3 HP.out.2.2.1 HP.out.2.2.2 _ _ HP1.out.1 HE1.out HX1.out).mono ?_
        rintro x w11 ⟨rfl, M2, hp2, hs2, hb4, m4⟩
        have HE3 := Lib.hid hb4
        have HX3 := Lib.hid m4
        have HP2 := Lib.hid (And.intro hp2 hs2)
        clear hb4 m4 hp2 hs2
        go_wp2_with fail
        all_goals (go_end0; have hfin := HTL.out.fin _ _ _ HP1.out.1 HP1.out.2 HP2.out.1 HP2.out.2 HE3.out HX3.out; first | exact ⟨rfl, hfin⟩ | (refine ⟨rfl, ?_⟩; simp only [List.append_assoc] at hfin ⊢; exact hfin))
      · have g1 := mt (HF.out.1).1 p3
        have g2 := (HF.out.2.1).2 p2
        have g3 := (HF.out.2.2.1).2 p1
        have g4 := (HF.out.2.2.2.1).2 p2
        have g5 := mt (HF.out.2.2.2.2.1).1 p3
        have g6 := (HF.out.2.2.2.2.2).2 p4
        have HP := Lib.hid (And.intro p1 (And.intro p2 (And.intro p3 p4)))
        clear p1 p2 p3 p4
        have hE1 := HIB.out
        rw [HTL.out.d1 (Or.inl (Nat.eq_zero_of_not_pos HP.out.2.2.1))] at hE1
        have HE1 := Lib.hid hE1
        have HX1 := HMO2
        clear hE1
        go_wp2_with fail
        refine (HTL.out.c2 HP.out.1 HP.out.2.1 _ HE1.out HX1.out).mono ?_
        rintro x w10 ⟨rfl, M1, hp1, hs1, hb4, m4⟩
        have HE2 := Lib.hid hb4
        have HX2 := Lib.hid m4
        have HP1 := Lib.hid (And.intro hp1 hs1)
        clear hb4 m4 hp1 hs1
        go_wp2_with fail
        all_goals (go_end0; have hfin := HTL.out.fin _ _ _ HP1.out.1 HP1.out.2 (List.Perm.refl (A2 ++ B2)) (HTL.out.d3 (Or.inl (Nat.eq_zero_of_not_pos HP.out.2.2.1))) HE2.out HX2.out; first | exact ⟨rfl, hfin⟩ | (refine ⟨rfl, ?_⟩; simp only [List.append_assoc] at hfin ⊢; exact hfin))
      · have g1 := (HF.out.1).2 p3
        have g2 := (HF.out.2.1).2 p2
        have g3 := (HF.out.2.2.1).2 p1
        have g4 := (HF.out.2.2.2.1).2 p2
        have g5 := (HF.out.2.2.2.2.1).2 p3
        have g6 := mt (HF.out.2.2.2.2.2).1 p4
        have HP := Lib.hid (And.intro p1 (And.intro p2 (And.intro p3 p4)))
        clear p1 p2 p3 p4
        go_wp2_with fail
        refine (HTL.out.c1 HP.out.2.2.1 HP.out.2.1 _ HIB.out HMO2.out).mono ?_
        rintro x w9 ⟨rfl, hb4, m4⟩
        have HE1 := Lib.hid hb4
        have HX1 := Lib.hid m4
        clear hb4 m4
        go_wp2_with fail
        refine (HTL.out.c2 HP.out.1 HP.out.2.1 _ HE1.out HX1.out).mono ?_
        rintro x w10 ⟨rfl, M1, hp1, hs1, hb4, m4⟩
        have HE2 := Lib.hid hb4
        have HX2 := Lib.hid m4
        have HP1 := Lib.hid (And.intro hp1 hs1)
        clear hb4 m4 hp1 hs1
        go_wp2_with fail
        all_goals (go_end0; have hfin := HTL.out.fin _ _ _ HP1.out.1 HP1.out.2 (List.Perm.refl (A2 ++ B2)) (HTL.out.d3 (Or.inr (Nat.eq_zero_of_not_pos HP.out.2.2.2))) HE2.out HX2.out; first | exact ⟨rfl, hfin⟩ | (refine ⟨rfl, ?_⟩; simp only [List.append_assoc] at hfin ⊢; exact hfin))
      · have g1 := (HF.out.1).2 p3
        have g2 := (HF.out.2.1).2 p2
        have g3 := mt (HF.out.2.2.1).1 p1
        have g4 := (HF.out.2.2.2.1).2 p2
        have g5 := (HF.out.2.2.2.2.1).2 p3
        have g6 := mt (HF.out.2.2.2.2.2).1 p4
        have HP := Lib.hid (And.intro p1 (And.intro p2 (And.intro p3 p4)))
        clear p1 p2 p3 p4
        have HP1 := Lib.hid (And.intro (List.Perm.refl (A1 ++ B1)) (HTL.out.d2 (Or.inl (Nat.eq_zero_of_not_pos HP.out.1))))
        go_wp2_with fail
        refine (HTL.out.c1 HP.out.2.2.1 HP.out.2.1 _ HIB.out HMO2.out).mono ?_
        rintro x w9 ⟨rfl, hb4, m4⟩
        have HE1 := Lib.hid hb4
        have HX1 := Lib.hid m4
        clear hb4 m4
        go_wp2_with fail
        all_goals (go_end0; have hfin := HTL.out.fin _ _ _ HP1.out.1 HP1.out.2 (List.Perm.refl (A2 ++ B2)) (HTL.out.d3 (Or.inr (Nat.eq_zero_of_not_pos HP.out.2.2.2))) HE1.out HX1.out; first | exact ⟨rfl, hfin⟩ | (refine ⟨rfl, ?_⟩; simp only [List.append_assoc] at hfin ⊢; exact hfin))
      · have g1 := mt (HF.out.1).1 p3
        have g2 := mt (HF.out.2.1).1 p2
        have g3 := (HF.out.2.2.1).2 p1
        have g4 := mt (HF.out.2.2.2.1).1 p2
        have g5 := mt (HF.out.2.2.2.2.1).1 p3
        have g6 := (HF.out.2.2.2.2.2).2 p4
        have HP := Lib.hid (And.intro p1 (And.intro p2 (And.intro p3 p4)))
        clear p1 p2 p3 p4
        have hE1 := HIB.out
        rw [HTL.out.d1 (Or.inl (Nat.eq_zero_of_not_pos HP.out.2.2.1))] at hE1
        have HE1 := Lib.hid hE1
        have HX1 := HMO2
        clear hE1
        have HP1 := Lib.hid (And.intro (List.Perm.refl (A1 ++ B1)) (HTL.out.d2 (Or.inr (Nat.eq_zero_of_not_pos HP.out.2.1))))
        go_wp2_with fail
        all_goals (go_end0; have hfin := HTL.out.fin _ _ _ HP1.out.1 HP1.out.2 (List.Perm.refl (A2 ++ B2)) (HTL.out.d3 (Or.inl (Nat.eq_zero_of_not_pos HP.out.2.2.1))) HE1.out HX1.out; first | exact ⟨rfl, hfin⟩ | (refine ⟨rfl, ?_⟩; simp only [List.append_assoc] at hfin ⊢; exact hfin))
end Go.Proofs.Ytoncjoelkenjnaa.SS
