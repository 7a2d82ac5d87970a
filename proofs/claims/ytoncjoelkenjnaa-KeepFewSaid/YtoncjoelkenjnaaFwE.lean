/- The law KeepFew: the walk, as far as the answer at the rule of noughts. -/
import Derived.Test.YtoncjoelkenjnaaPsB
import Derived.Test.YtoncjoelkenjnaaFwT
namespace Go.Proofs.Ytoncjoelkenjnaa.PL
open Go.RowKit Mem Go.Proofs.Ytoncjoelkenjnaa.Days Go.Proofs.Ytoncjoelkenjnaa.SS
set_option linter.unusedVariables false
set_option linter.unusedSimpArgs false

/-- The loop for the newest. -/
def K2 (w : World) (tm : Nat → Int) (n : Nat) (v16 v17 : Value) (wr : World) : Prop := ∃ i nw u : Nat, i ≤ n ∧ Nw tm i nw ∧ v16 = .int .i64 (nw : Int) ∧ v17 = .int .i64 (i : Int) ∧ wr = w.drewN u
theorem mostF_le {l h d k m y v : Int} (H : l ≤ 32767 ∧ h ≤ 32767 ∧ d ≤ 32767 ∧ k ≤ 32767 ∧ m ≤ 32767 ∧ y ≤ 32767 ∧ v ≤ 9223372036854775807) {q : Nat} (hq : q < 6) : mostF l h d k m y q ≤ 32767 := by
  unfold mostF
  repeat' split
  all_goals omega
theorem mostF_ge {l h d k m y v : Int} (H : rightB l h d k m y v = true) {q : Nat} (hq : q < 6) : 0 ≤ mostF l h d k m y q := by
  have h1 := of_decide_eq_true H
  unfold mostF
  repeat' split
  all_goals omega
def K1 (w : World) (v13 v14 : Value) (wr : World) : Prop := ∃ q : Nat, q ≤ 6 ∧ v13 = .int .u8 ((2 : Int) ^ q) ∧ v14 = .int .i64 (q : Int) ∧ wr = w
set_option maxRecDepth 100000 in
set_option maxHeartbeats 20000000 in
theorem few_law {w : World} {A : Option Addr} {b o n c : Nat} {nm : Nat → ByteArray} {tm : Nat → Int} {l h d k m y v l' h' d' k' m' y' v' : Int} (H : ShA w A b o n nm tm)
    (hl : l ≤ 32767) (hh : h ≤ 32767) (hd : d ≤ 32767) (hk : k ≤ 32767) (hm : m ≤ 32767) (hy : y ≤ 32767) (hv : v ≤ 9223372036854775807)
    (hl' : l' ≤ 32767) (hh' : h' ≤ 32767) (hd' : d' ≤ 32767) (hk' : k' ≤ 32767) (hm' : m' ≤ 32767) (hy' : y' ≤ 32767) (hv' : v' ≤ 9223372036854775807) :
    Calls Try.prog 8 #[.slice A n c, rv l h d k m y v, rv l' h' d' k' m' y' v'] w fun e w' => e = .returned (.bool true) ∧ Mod no w w' := by
  have HH := Lib.hid H
  unfold rv
  by_cases h300 : 300 < n
  · have g1 : (300 : Int) < (n : Int) := by omega
    clear H h300
    go_enter Try.func8, Try.ntmps8
    go_wp2_with fail
    go_ret
    exact ⟨rfl, ((Mod.refl no w).alloc _).alloc _⟩
  have hn3 : n ≤ 300 := by omega
  have g1 : ¬ (300 : Int) < (n : Int) := by omega
  have HN := Lib.hid hn3
  have HP := Lib.hid (fun (W : World) (hs : ShA W A b o n nm tm) => (plan_any (c := c) hs (by omega) hl hh hd hk hm hy hv).mono (fun e w' hp => plan_out hp))
  have HR := Lib.hid (fun (W : World) (hs : ShA W A b o n nm tm) => (rplan_any (c := c) hs (by omega) hl hh hd hk hm hy hv).mono (fun e w' hp => rplan_out hp))
  unfold rv at HP HR
  have HV := Lib.hid (And.intro hl (And.intro hh (And.intro hd (And.intro hk (And.intro hm (And.intro hy hv))))))
  have HV' := Lib.hid (And.intro hl' (And.intro hh' (And.intro hd' (And.intro hk' (And.intro hm' (And.intro hy' hv'))))))
  clear H hl hh hd hk hm hy hv hl' hh' hd' hk' hm' hy' hv' h300 hn3
  go_enter Try.func8, Try.ntmps8
  go_wp2_with fail
  refine (HP.out _ (HH.out.mod (((Mod.refl no w).alloc _).alloc _) (fun _ c => c))).mono ?_
  rintro e1 w1 ⟨A1, n1, c1, en, ws, rfl, ho1, hk1, hg1, hM1, hm1⟩
  have HO1 := Lib.hid (And.intro ho1 (And.intro hk1 (And.intro hg1 (And.intro hM1 hm1))))
  have hq := ((Blk.new w 50 #[.int .i16 l, .int .i16 h, .int .i16 d, .int .i16 k, .int .i16 m, .int .i16 y, .int .i64 v]).alloc (.cells #[.int .i16 l', .int .i16 h', .int .i16 d', .int .i16 k', .int .i16 m', .int .i16 y', .int .i64 v'] 50)).mod hm1 (fun c => c)
  have q0 := hq.cell 0
  have q1 := hq.cell 1
  have q2 := hq.cell 2
  have q3 := hq.cell 3
  have q4 := hq.cell 4
  have q5 := hq.cell 5
  have q6 := hq.cell 6
  have HQ := Lib.hid hq
  have hqr0 := Blk.new (w.alloc (.cells #[.int .i16 l, .int .i16 h, .int .i16 d, .int .i16 k, .int .i16 m, .int .i16 y, .int .i64 v] 50)) 50 #[.int .i16 l', .int .i16 h', .int .i16 d', .int .i16 k', .int .i16 m', .int .i16 y', .int .i64 v']
  rw [World.size_alloc] at hqr0
  have HQR0 := Lib.hid (hqr0.mod hm1 (fun c => c))
  clear hqr0
  clear ho1 hk1 hg1 hM1 hm1 hq
  go_wp2_with fail
  refine (HR.out _ (HH.out.mod ((((Mod.refl no w).alloc _).alloc _).and_then HO1.out.2.2.2.2) (fun _ c => c))).mono ?_
  rintro e2 w2 ⟨A2, n2, c2, en2, ws2, rfl, ho2, hk2, hg2, hM2, hm2⟩
  obtain ⟨hn12, hen12⟩ := HO1.out.1.same ho2
  subst hn12 hen12
  have HM2 := Lib.hid hm2
  have e0 : (en != en) = false := by simp
  clear q0 q1 q2 q3 q4 q5 q6 ho2 hk2 hg2 hM2 hm2
  by_cases he : en = 0
  rotate_left
  · have e1 : (en != 0) = true := by simpa using he
    have hn0 : n1 = 0 := by
      rcases HO1.out.1 with ⟨_, h1, _⟩ | ⟨_, _, h1, _⟩ | ⟨_, _, _, h1, _⟩ | ⟨_, _, _, _, h1⟩
      · exact h1
      · exact h1
      · exact h1
      · exact absurd h1 he
    have HZ := Lib.hid hn0
    have e2 : ((n1 : Int) == 0) = true := by rw [beq_iff_eq]; omega
    clear hn0 he
    go_wp2_with fail
    go_ret
    exact ⟨rfl, ((((Mod.refl no w).alloc _).alloc _).and_then HO1.out.2.2.2.2).and_then HM2.out⟩
  subst he
  have hst : n1 = n ∧ n ≤ 4096 ∧ rightB l h d k m y v = true ∧ allIn n tm = true := by
    rcases HO1.out.1 with ⟨_, _, h2⟩ | ⟨_, _, _, h2⟩ | ⟨_, _, _, _, h2⟩ | ⟨a, b, c, e, _⟩
    · cases h2
    · cases h2
    · cases h2
    · exact ⟨e, a, b, c⟩
  obtain ⟨hnn, hn4, hri, hall⟩ := hst
  subst hnn
  have hM : ∃ M, Sd (keyT tm) M (ints n1) ∧ KV w1 A1 n1 nm (planW tm M l h d k m y v) := by
    rcases Nat.eq_zero_or_pos n1 with h0 | h0
    · refine ⟨[], ?_, fun h => by omega⟩
      rw [h0]
      exact ⟨List.Perm.refl _, List.Pairwise.nil⟩
    · obtain ⟨M, h1, h2⟩ := HO1.out.2.2.2.1 h0
      exact ⟨M, h1, by rw [← h2]; exact HO1.out.2.1⟩
  obtain ⟨M, hsd, hkv⟩ := hM
  have HSD := Lib.hid hsd
  have HK := Lib.hid (hkv.mod HM2.out (fun _ _ c => c))
  have HST := Lib.hid (And.intro hn4 (And.intro hri hall))
  have HW2 := Lib.hid ((((Mod.refl no w).alloc (.cells #[.int .i16 l, .int .i16 h, .int .i16 d, .int .i16 k, .int .i16 m, .int .i16 y, .int .i64 v] 50)).alloc (.cells #[.int .i16 l', .int .i16 h', .int .i16 d', .int .i16 k', .int .i16 m', .int .i16 y', .int .i64 v'] 50)).and_then (HO1.out.2.2.2.2.and_then HM2.out))
  have hz := (plan_any (c := c) (l := 0) (h := 0) (d := 0) (k := 0) (m := 0) (y := 0) (v := 0) (HH.out.mod HW2.out (fun _ c => c)) (by omega) (by decide) (by decide) (by decide) (by decide) (by decide) (by decide) (by decide)).mono (fun e w' hp => plan_out hp)
  unfold rv at hz
  have HZ := Lib.hid hz
  clear hn4 hri hall hsd hkv hz
  go_wp2_with fail
  refine HZ.out.mono ?_
  rintro e3 w3 ⟨A3, n3, c3, en3, ws3, rfl, ho3, hk3, hg3, hM3, hm3⟩
  have hz3 : Oc n1 tm 0 0 0 0 0 0 0 n1 0 := .inr (.inr (.inr ⟨HST.out.1, rfl, HST.out.2.2, rfl, rfl⟩))
  obtain ⟨hn13, hen13⟩ := hz3.same ho3
  subst hn13 hen13
  have hw3 : KV w3 A3 n1 nm (fun _ => 0) := fun hp => by
    obtain ⟨M3, s3, e3⟩ := hM3 hp
    obtain ⟨g, hA, hkb⟩ := hk3 hp
    exact ⟨g, hA, hkb.congr (fun _ _ => rfl) (fun i _ => by rw [e3]; exact zero_keeps s3 i)⟩
  have HW3 := Lib.hid (And.intro hw3 hm3)
  have hc0 : cnt (fun _ => 0) 255 n1 = 0 := by
    unfold cnt
    refine List.countP_eq_zero.2 fun i _ => ?_
    simp only [show bits .and .u8 0 255 = 0 by decide]
    decide
  have HC0 := Lib.hid hc0
  have e4 : ((n1 : Int) != (n1 : Int)) = false := by simp
  clear hz3 ho3 hk3 hg3 hM3 hm3 hw3 hc0
  go_wp2_with fail
  refine (count_any HW3.out.1 (by have := HN.out; omega)).mono ?_
  rintro e5 w4 ⟨rfl, rfl⟩
  rw [HC0.out]
  have hq := (HQ.out.mod HM2.out (fun c => c)).mod HW3.out.2 (fun c => c)
  have q0 := hq.cell 0
  have q1 := hq.cell 1
  have q2 := hq.cell 2
  have q3 := hq.cell 3
  have q4 := hq.cell 4
  have q5 := hq.cell 5
  have HQ3 := Lib.hid hq
  have HQR := Lib.hid ((HQR0.out.mod HM2.out (fun c => c)).mod HW3.out.2 (fun c => c))
  clear hq
  go_wp2_with fail
  obtain ⟨gm, hgm⟩ : ∃ gm, gm = w4.heap.size := ⟨_, rfl⟩
  have hb5 : Blk (w4.alloc (.cells #[.int .i16 l, .int .i16 h, .int .i16 d, .int .i16 k, .int .i16 m, .int .i16 y] 36)) gm 36 (mostCells l h d k m y) := by rw [hgm]; exact Blk.new _ _ _
  have hk5 := (HK.out.mod HW3.out.2 (fun _ _ c => c)).mod (S := no) ((Mod.refl no w4).alloc (.cells #[.int .i16 l, .int .i16 h, .int .i16 d, .int .i16 k, .int .i16 m, .int .i16 y] 36)) (fun _ _ c => c)
  have H5 := Lib.hid (And.intro hb5 (And.intro hk5 ((Mod.refl no w4).alloc (.cells #[.int .i16 l, .int .i16 h, .int .i16 d, .int .i16 k, .int .i16 m, .int .i16 y] 36))))
  rw [← hgm]
  clear q0 q1 q2 q3 q4 q5 hb5 hk5 hgm
  generalize w4.alloc (.cells #[.int .i16 l, .int .i16 h, .int .i16 d, .int .i16 k, .int .i16 m, .int .i16 y] 36) = w5 at *
  go_loopw [13, 14] (K1 w5) (fun _ vq _ => 6 - (intOf vq).toNat)
  case atStart => exact ⟨0, by omega, rfl, rfl, rfl⟩
  case round =>
    obtain ⟨q, hq6, rfl, rfl, rfl⟩ := hrel
    by_cases hlt : q < 6
    · have hmo := mostF_le HV.out hlt
      have hge := mostF_ge HST.out.2.1 hlt
      obtain ⟨f1, f2⟩ := few HSD.out l h d k m y v hlt hge
      obtain ⟨wy, hwy⟩ : ∃ wy, wy = (2 : Int) ^ q := ⟨_, rfl⟩
      have hwb := pow_bd hlt
      have hct := count_any (c := c1) (bit := wy) H5.out.2.1 (by have := HN.out; omega)
      rw [← hwy] at f1 f2 hwb ⊢
      obtain ⟨ct, hcte⟩ : ∃ ct, ct = cnt (planW tm M l h d k m y v) wy n1 := ⟨_, rfl⟩
      have hcl := cnt_le (planW tm M l h d k m y v) wy n1
      rw [← hcte] at f1 f2 hct hcl
      obtain ⟨mo, hmoe⟩ : ∃ mo, mo = mostF l h d k m y q := ⟨_, rfl⟩
      rw [← hmoe] at f1 f2 hmo hge
      have HCT := Lib.hid hct
      have cm : wr.cell? ⟨gm, q, none⟩ = some (.int .i16 mo) := by rw [H5.out.1.cell, mostc _ _ _ _ _ _ hlt, hmoe]
      have g3 : (q : Int) < 6 := by omega
      have g4 : ¬ (q : Int) < 0 := by omega
      have d1 : ¬ mo < (ct : Int) := by omega
      have HX := Lib.hid (And.intro hlt hwy)
      have HWW := Lib.hid (show wrap64 ((q : Int) + 1) = (q : Int) + 1 ∧ wy * 2 % 256 = wy * 2 ∧ wrap64 mo = mo from ⟨IntWalk.wrap64_in _ (by omega), by omega, IntWalk.wrap64_in _ (by omega)⟩)
      have hcase : (ct ≠ 0) ∨ (ct = 0 ∧ ¬ 0 < mo) ∨ (ct = 0 ∧ ¬ 0 < n1) := by
        by_cases c0 : ct = 0
        · by_cases c1 : 0 < mo
          · by_cases c2 : 0 < n1
            · exact absurd (f2 c1 c2) (by omega)
            · exact .inr (.inr ⟨c0, c2⟩)
          · exact .inr (.inl ⟨c0, c1⟩)
        · exact .inl c0
      clear hct hcte hcl f1 f2 hmo hge hmoe hwy hwb hlt hq6
      have hend : ∀ (W : World), W = wr → K1 wr (.int .u8 (wy * 2)) (.int .i64 ((q : Int) + 1)) W := fun W hW => ⟨q + 1, HX.out.1, pow_next HX.out.2, by go_num, hW⟩
      have HEND := Lib.hid hend
      clear hend
      rcases hcase with c0 | ⟨c0, c1⟩ | ⟨c0, c1⟩
      · have e1 : ((ct : Int) == 0) = false := by rw [beq_eq_false_iff_ne]; omega
        clear c0
        have w9 := HWW.out.2.2
        go_wp2_with (go_at_call 23; refine HCT.out.mono ?_; rintro e6 w6 ⟨rfl, rfl⟩)
        go_roundw
        case rel => (try rw [HWW.out.2.1]); (try rw [HWW.out.1]); exact HEND.out _ rfl
        case measure =>
          have := HX.out.1
          try rw [HWW.out.1]
          clear w9
          show 6 - ((q : Int) + 1).toNat < 6 - ((q : Int)).toNat
          omega
      · have e1 : ((ct : Int) == 0) = true := by rw [beq_iff_eq]; omega
        clear c0
        have w9 := HWW.out.2.2
        go_wp2_with (go_at_call 23; refine HCT.out.mono ?_; rintro e6 w6 ⟨rfl, rfl⟩)
        all_goals first | go_roundw | skip
        all_goals first
          | exact HEND.out _ rfl
          | ((try rw [HWW.out.2.1]); (try rw [HWW.out.1]); exact HEND.out _ rfl)
          | (have := HX.out.1
             try rw [HWW.out.1]
             clear w9
             show 6 - ((q : Int) + 1).toNat < 6 - ((q : Int)).toNat
             omega)
          | (refine ⟨?_, ?_⟩
             · (try rw [HWW.out.2.1]); (try rw [HWW.out.1]); exact HEND.out _ rfl
             · have := HX.out.1
               try rw [HWW.out.1]
               clear w9
               show 6 - ((q : Int) + 1).toNat < 6 - ((q : Int)).toNat
               omega)
      · have e1 : ((ct : Int) == 0) = true := by rw [beq_iff_eq]; omega
        clear c0
        have w9 := HWW.out.2.2
        have c2 : ¬ (0 : Int) < (n1 : Int) := by clear w9; omega
        go_wp2_with (go_at_call 23; refine HCT.out.mono ?_; rintro e6 w6 ⟨rfl, rfl⟩)
        all_goals first | go_roundw | skip
        all_goals first
          | exact HEND.out _ rfl
          | ((try rw [HWW.out.2.1]); (try rw [HWW.out.1]); exact HEND.out _ rfl)
          | (have := HX.out.1
             try rw [HWW.out.1]
             clear w9
             show 6 - ((q : Int) + 1).toNat < 6 - ((q : Int)).toNat
             omega)
          | (refine ⟨?_, ?_⟩
             · (try rw [HWW.out.2.1]); (try rw [HWW.out.1]); exact HEND.out _ rfl
             · have := HX.out.1
               try rw [HWW.out.1]
               clear w9
               show 6 - ((q : Int) + 1).toNat < 6 - ((q : Int)).toNat
               omega)
    · obtain rfl : q = 6 := by omega
      have g3 : ¬ ((6 : Nat) : Int) < 6 := by omega
      have hs5 := HH.out.mod ((HW2.out.and_then HW3.out.2).and_then H5.out.2.2) (fun _ c => c)
      have HS5 := Lib.hid hs5
      clear hlt hq6 hs5
      go_wp2_with fail
      obtain ⟨w6, hw6⟩ : ∃ w6, w6 = wr := ⟨_, rfl⟩
      rw [← hw6] at H5 HS5 ⊢
      clear hw6
      rename (∀ (a : Act) (w : World), Code.wp _ (Code.seq (Code.region 29 _ _) _) _ a w → _) => hK29
      have HK29 := Lib.hid hK29
      clear hK29
      go_loopw [16, 17] (K2 w6 tm n1) (fun _ v _ => n1 - (intOf v).toNat)
      case atStart => exact ⟨0, 0, 0, Nat.zero_le _, ⟨fun j hj => by omega, fun j hj => by omega, .inr ⟨rfl, rfl⟩⟩, rfl, rfl, rfl⟩
      case round =>
        obtain ⟨i, nw, u, hi, hnw, rfl, rfl, hw⟩ := hrel
        have hM : Mod no w6 wr := by rw [hw]; exact (Mod.refl no w6).drewN u
        have HW := Lib.hid (And.intro hw hM)
        by_cases hlt : i < n1
        · have ha := HS5.out.mod hM (fun _ c => c)
          obtain rfl := ha.at_ (by omega)
          obtain ⟨g, rfl, ka⟩ := (H5.out.2.1.mod hM (fun _ _ c => c)) (by omega)
          have hnwn : nw < n1 := by have := hnw.2.2; omega
          have a0 := ha.name i hlt
          have a1 := ha.time i hlt
          have a2 := ha.time nw hnwn
          have k0 := ka.name hlt
          have k1 := ka.why hlt
          have hle := (plan_le HSD.out l h d k m y v i).2
          obtain ⟨x, hx⟩ : ∃ x, x = planW tm M l h d k m y v i := ⟨_, rfl⟩
          rw [← hx] at k1 hle
          have hst := nw_step hnw (.inr trivial)
          have g4 : (i : Int) < (n1 : Int) := by omega
          have g5 : ¬ (i : Int) < 0 := by omega
          have g6 : (nw : Int) < (n1 : Int) := by omega
          have g7 : ¬ (nw : Int) < 0 := by omega
          have g8 : ¬ (127 : Int) < x := by omega
          have w1 : wrap64 ((i : Int) + 1) = (i : Int) + 1 := IntWalk.wrap64_in _ (by have := HN.out; omega)
          have HL := Lib.hid hlt
          by_cases hc : tm nw < tm i
          · rw [if_pos hc] at hst
            have HT := Lib.hid hst
            have c1 : decide (tm nw < tm i) = true := decide_eq_true hc
            clear hi hlt hnw hnwn ha ka hx hst hle hw hM
            go_wp2_with fail
            go_quiet (fail)
            go_wp2_with fail
            go_quiet (fail)
            go_wp2_with fail
            go_roundw
            case rel => exact ⟨i + 1, i, _, HL.out, HT.out, rfl, by go_num, by rw [HW.out.1, World.drewN_drewN]⟩
            case measure =>
              have := HL.out
              try rw [w1]
              clear w1
              show n1 - ((i : Int) + 1).toNat < n1 - ((i : Int)).toNat
              omega
          · rw [if_neg hc] at hst
            have HT := Lib.hid hst
            have c1 : decide (tm nw < tm i) = false := decide_eq_false hc
            clear hi hlt hnw hnwn ha ka hx hst hle hw hM
            go_wp2_with fail
            go_quiet (fail)
            go_wp2_with fail
            go_quiet (fail)
            go_wp2_with fail
            go_roundw
            case rel => exact ⟨i + 1, nw, _, HL.out, HT.out, rfl, by go_num, by rw [HW.out.1, World.drewN_drewN]⟩
            case measure =>
              have := HL.out
              try rw [w1]
              clear w1
              show n1 - ((i : Int) + 1).toNat < n1 - ((i : Int)).toNat
              omega
        · obtain rfl : i = n1 := by omega
          have g4 : ¬ (i : Int) < (i : Int) := by omega
          have ha := HS5.out.mod hM (fun _ c => c)
          have hkv := H5.out.2.1.mod hM (fun _ _ c => c)
          have hq := ((HQ3.out.mod H5.out.2.2 (fun c => c)).mod hM (fun c => c))
          have hr := (HQR.out.mod H5.out.2.2 (fun c => c)).mod hM (fun c => c)
          have hM0 : Mod no w wr := ((HW2.out.and_then HW3.out.2).and_then H5.out.2.2).and_then hM
          have HE := Lib.hid (And.intro ha (And.intro hkv (And.intro hq (And.intro hr (And.intro hM0 hnw)))))
          clear ha hkv hq hr hM0 hnw hM hw hi hlt
          go_wp2_with fail
          refine HK29.out _ _ ?_
          exact few_tail HE.out.1 HE.out.2.1 HE.out.2.2.1 HE.out.2.2.2.1 HE.out.2.2.2.2.1 HE.out.2.2.2.2.2 HN.out HSD.out HST.out HV.out HV'.out _ _ _ _ _ _ _ _ _ _ _ _ _ _ _ _ _ _ _ _ _ _ _ _ _ _ _ _ _ _ _ _ _ _ _ _ _ _ _ _ _ _ _ _ _ _ _ _ _ _ _ _ _ _ _ _ _ _ _ _ _ _ _ _ _ _ _ _ _ _ _ _ _ _ _ _ _ _ _ _ _ _ _ _ _ _ _ _ _ _ _ _ _ _ _ _ _ _ _ _ _ _ _ _ _ _ _ _ _ _ _ _ _ _ _ _ _ _ _ _ _ _ _ _ _ _ _ _ _ _ _ _ _ _ _ _ _ _ _ _ _ _ _ _ _ _ _ _ _ _ _ _ _ _ _ _ _ _ _ _ _ _ _ _ _ _ _ _ _ _ _ _ _ _ _ _ _ _ _ _ _ _ _ _ _ _ _ _ _ _ _ _ _ _ _ _ _ _ _ _ _ _ _ _ _ _ _ _ _ _ _ _ _ _ _ _ _ _ _ _ _ _ _ _ _ _ _ _ _ _ _ _ _ _ _ _ _ _ _ _ _ _ _ _
end Go.Proofs.Ytoncjoelkenjnaa.PL
