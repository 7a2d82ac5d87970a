/- The law KeepPlans: the walk. -/
import Derived.Test.YtoncjoelkenjnaaPsB
namespace Go.Proofs.Ytoncjoelkenjnaa.PL
open Go.RowKit Mem Go.Proofs.Ytoncjoelkenjnaa.Days Go.Proofs.Ytoncjoelkenjnaa.SS
set_option linter.unusedVariables false
set_option linter.unusedSimpArgs false

def InI (w : World) (n : Nat) (v : Value) (wr : World) : Prop := ∃ i q : Nat, i ≤ n ∧ v = .int .i64 (i : Int) ∧ wr = w.drewN q
def SpI (w w0 : World) (n : Nat) (A : Option Addr) (v : Value) (wr : World) : Prop := ∃ (i : Nat) (nm' : Nat → ByteArray) (ws' : Nat → Int), i ≤ n ∧ v = .int .i64 (i : Int) ∧ KV wr A n nm' ws' ∧ Mod (fun g => 0 < n ∧ A = some ⟨g, 0, none⟩) w0 wr
set_option maxRecDepth 100000 in
set_option maxHeartbeats 8000000 in
theorem plans_law {w : World} {A : Option Addr} {b o n c : Nat} {nm : Nat → ByteArray} {tm : Nat → Int} {l h d k m y v : Int} (H : ShA w A b o n nm tm) (hn : n ≤ 524288)
    (hl : l ≤ 32767) (hh : h ≤ 32767) (hd : d ≤ 32767) (hk : k ≤ 32767) (hm : m ≤ 32767) (hy : y ≤ 32767) (hv : v ≤ 9223372036854775807) :
    Calls Try.prog 7 #[.slice A n c, rv l h d k m y v] w fun e w' => e = .returned (.bool true) ∧ Mod no w w' := by
  have HH := Lib.hid H
  have HN := Lib.hid hn
  have HP := Lib.hid (fun (W : World) (A' : Option Addr) (b' o' c' : Nat) (hs : ShA W A' b' o' n nm tm) => (plan_any (c := c') hs (by omega) hl hh hd hk hm hy hv).mono (fun e w' hp => plan_out hp))
  have HR := Lib.hid (fun (W : World) (A' : Option Addr) (b' o' c' : Nat) (hs : ShA W A' b' o' n nm tm) => (rplan_any (c := c') hs (by omega) hl hh hd hk hm hy hv).mono (fun e w' hp => rplan_out hp))
  unfold rv at HP HR ⊢
  clear H hn hl hh hd hk hm hy hv
  obtain ⟨i0, hi0, hz0, hz1, hz2⟩ := info_parts shot_info
  have HI0 := Lib.hid (And.intro hi0 (And.intro hz0 (And.intro hz1 hz2)))
  clear hi0 hz0 hz1 hz2
  by_cases hbig : 1000 < n ∧ n ≤ 4096
  · have g1 : (1000 : Int) < (n : Int) := by omega
    have g2 : (n : Int) ≤ 4096 := by omega
    clear hbig
    go_enter Try.func7, Try.ntmps7
    go_wp2_with fail
    go_ret
    exact ⟨rfl, (Mod.refl no w).alloc _⟩
  obtain ⟨B, hB⟩ : ∃ B : Bool, B = true := ⟨true, rfl⟩
  have core : (¬ (1000 : Int) < (n : Int)) ∨ ((1000 : Int) < (n : Int) ∧ ¬ (n : Int) ≤ 4096) := by omega
  clear hbig hB
  rcases core with g1 | ⟨g1, g2⟩
  all_goals
    go_enter Try.func7, Try.ntmps7
    go_wp2_with (first
      | (at_builtin
         refine wpList_append _ rfl (.tmp 21) (.tmp 22) 48 rfl (w.heap.size + 1) 56 i0 (.agg #[.string ⟨#[]⟩, .int .i64 0]) 2 24 Try.underlying48 HI0.out.1 HI0.out.2.1 HI0.out.2.2.1 HI0.out.2.2.2 rfl (by decide) (.slice none 0 0) 0 [] rfl (World.ownsRow_nil _ _ _ _) A n c (sx nm tm n) rfl (HH.out.mod ((Mod.refl no w).alloc _) (fun _ c => c)).rds (sx_one nm tm n) (by have := HN.out; simp only [maxLen]; omega) (by have := HN.out; omega) (by simp) ?_
         intro v9 w9 hown9 hg9 _ _
         rw [Nat.zero_add, List.nil_append] at hown9
         obtain ⟨A9, c9, rfl⟩ := own_form hown9
         obtain ⟨b9, hs9, hb9⟩ := ShA.of_own hown9
         have hm9 : Mod no (w.alloc (.cells #[.int .i16 l, .int .i16 h, .int .i16 d, .int .i16 k, .int .i16 m, .int .i16 y, .int .i64 v] 50)) w9 := Mod.of_grown hg9 (fun _ _ e => by cases e)
         have hq9 : Blk w9 w.heap.size 50 #[.int .i16 l, .int .i16 h, .int .i16 d, .int .i16 k, .int .i16 m, .int .i16 y, .int .i64 v] := (Blk.new w _ _).mod hm9 (fun c => c)
         have HS9 := Lib.hid (And.intro hs9 (And.intro hb9 (And.intro (((Mod.refl no w).alloc _).and_then hm9) hq9)))
         have q0 := hq9.cell 0
         have q1 := hq9.cell 1
         have q2 := hq9.cell 2
         have q3 := hq9.cell 3
         have q4 := hq9.cell 4
         have q5 := hq9.cell 5
         have q6 := hq9.cell 6
         clear hown9 hg9 hs9 hb9 hm9 hq9))
    refine (HP.out w9 A9 b9 0 c9 HS9.out.1).mono ?_
    rintro e1 w10 ⟨A1, n1, c1, en, ws, rfl, ho1, hk1, hg1, hM1, hm1⟩
    have hq10 := HS9.out.2.2.2.mod hm1 (fun c => c)
    have HO1 := Lib.hid (And.intro ho1 (And.intro hk1 (And.intro hg1 (And.intro hM1 (And.intro hm1 hq10)))))
    clear q0 q1 q2 q3 q4 q5 q6
    have q0 := hq10.cell 0
    have q1 := hq10.cell 1
    have q2 := hq10.cell 2
    have q3 := hq10.cell 3
    have q4 := hq10.cell 4
    have q5 := hq10.cell 5
    have q6 := hq10.cell 6
    clear ho1 hk1 hg1 hM1 hm1 hq10
    go_wp2_with fail
    refine (HR.out w10 A b o c (HH.out.mod (HS9.out.2.2.1.and_then HO1.out.2.2.2.2.1) (fun _ c => c))).mono ?_
    rintro e2 w11 ⟨A2, n2, c2, en2, ws2, rfl, ho2, hk2, hg2, hM2, hm2⟩
    obtain ⟨hn12, hen12⟩ := HO1.out.1.same ho2
    subst hn12 hen12
    have hk2' := ws_same HO1.out.2.2.2.1 hM2 hk2
    have hk1' : KV w11 A1 n1 nm ws := HO1.out.2.1.mod hm2 (fun _ _ c => c)
    have hn1 := ho2.le
    have HO2 := Lib.hid (And.intro hk1' (And.intro hk2' (And.intro hm2 (And.intro hg2 hn1))))
    have e0 : (en != en) = false := by simp
    have e1' : (en == en) = true := by simp
    clear q0 q1 q2 q3 q4 q5 q6 ho2 hk2 hg2 hM2 hm2 hk2' hk1' hn1
    go_wp2_with fail
    refine (sameKept_any HO2.out.1 HO2.out.2.1 (by have := HO2.out.2.2.2.2; omega)).mono ?_
    rintro e3 w12 ⟨rfl, hm3⟩
    have HM3 := Lib.hid hm3
    have HA12 := Lib.hid (show ShA w12 A b o n nm tm ∧ ShA w12 A9 b9 0 n nm tm from ⟨HH.out.mod (((HS9.out.2.2.1.and_then HO1.out.2.2.2.2.1).and_then HO2.out.2.2.1).and_then hm3) (fun _ c => c), HS9.out.1.mod ((HO1.out.2.2.2.2.1.and_then HO2.out.2.2.1).and_then hm3) (fun _ c => c)⟩)
    clear hm3
    go_wp2_with fail
    go_loopw [10] (InI w12 n) (fun vi _ => n - (intOf vi).toNat)
    case atStart => exact ⟨0, 0, Nat.zero_le _, rfl, rfl⟩
    case round =>
      obtain ⟨i, q, hi, rfl, hw⟩ := hrel
      have hM : Mod no w12 wr := by rw [hw]; exact (Mod.refl no w12).drewN q
      have HW := Lib.hid (And.intro hw hM)
      by_cases hlt : i < n
      · have ha := HA12.out.1.mod hM (fun _ c => c)
        have hb := HA12.out.2.mod hM (fun _ c => c)
        obtain rfl := ha.at_ (by omega)
        obtain rfl := hb.at_ (by omega)
        have a0 := ha.name i hlt
        have a1 := ha.time i hlt
        have b0 := hb.name i hlt
        have b1 := hb.time i hlt
        rw [Nat.zero_add] at b0 b1
        have g3 : (i : Int) < (n : Int) := by omega
        have g4 : ¬ (i : Int) < 0 := by omega
        have HK := Lib.hid hlt
        have w1 : wrap64 ((i : Int) + 1) = (i : Int) + 1 := IntWalk.wrap64_in _ (by have := HN.out; omega)
        clear hw hM hi ha hb hlt
        go_wp2_with fail
        go_quiet (fail)
        go_wp2_with fail
        go_roundw
        case rel => exact ⟨i + 1, q + nq, HK.out, by go_num, by rw [HW.out.1, World.drewN_drewN]⟩
        case measure =>
          have := HK.out
          try rw [w1]
          clear w1
          show n - ((i : Int) + 1).toNat < n - ((i : Int)).toNat
          omega
      · obtain rfl : i = n := by omega
        have g3 : ¬ (i : Int) < (i : Int) := by omega
        have hm4 := (HO2.out.2.2.1.and_then HM3.out).and_then hM
        have HM4 := Lib.hid hm4
        have HSP := Lib.hid (show SpI w wr n1 A1 (.int .i64 0) wr from ⟨0, nm, ws, Nat.zero_le _, rfl, HO1.out.2.1.mod hm4 (fun _ _ c => c), Mod.refl _ _⟩)
        clear hw hM hi hlt hm4
        go_wp2_with fail
        obtain ⟨W13, hW13⟩ : ∃ W13, W13 = wr := ⟨_, rfl⟩
        rw [← hW13]
        rw [← hW13] at HSP HM4 HW
        clear hW13
        go_loopw [11] (SpI w W13 n1 A1) (fun vi _ => n1 - (intOf vi).toNat)
        case atStart => exact HSP.out
        case round =>
          clear HSP
          obtain ⟨j, nm', ws', hj, rfl, hkv, hM⟩ := hrel
          by_cases hlt : j < n1
          · obtain ⟨g, rfl, hkb⟩ := hkv (by omega)
            have c0 := hkb.name hlt
            have c1' := hkb.why hlt
            have r0 := hkb.free (j * 2)
            have r1 := hkb.free (j * 2 + 1)
            have l0 := hkb.lt
            have g5 : (j : Int) < (n1 : Int) := by omega
            have g6 : ¬ (j : Int) < 0 := by omega
            have HK := Lib.hid (And.intro hlt (And.intro hkb hM))
            have w1 : wrap64 ((j : Int) + 1) = (j : Int) + 1 := IntWalk.wrap64_in _ (by have := HO2.out.2.2.2.2; omega)
            clear hkv hM hlt hj hkb
            go_wp2_with fail
            go_roundw
            case rel =>
              exact ⟨j + 1, _, _, HK.out.1, by go_num, fun _ => ⟨g, rfl, (HK.out.2.1.putName HK.out.1 _).put HK.out.1 _⟩, (HK.out.2.2.set (p := ⟨g, j * 2, none⟩) (fun _ => ⟨by have := HK.out.1; omega, rfl⟩) _).set (p := ⟨g, j * 2 + 1, none⟩) (fun _ => ⟨by have := HK.out.1; omega, rfl⟩) _⟩
            case measure =>
              have := HK.out.1
              try rw [w1]
              clear w1
              show n1 - ((j : Int) + 1).toNat < n1 - ((j : Int)).toNat
              omega
          · obtain rfl : j = n1 := by omega
            have g5 : ¬ (j : Int) < (j : Int) := by omega
            have hge : ∀ g, (0 < j ∧ A1 = some ⟨g, 0, none⟩) → w9.heap.size ≤ g ∧ g < w10.heap.size := fun g hg => by
              refine ⟨HO1.out.2.2.1 g hg.1 hg.2, ?_⟩
              obtain ⟨g', hg', hkb⟩ := HO1.out.2.1 hg.1
              rw [hg.2] at hg'
              injection hg' with hg'
              injection hg' with hg'
              rw [hg']
              exact hkb.lt
            have hm5 : Mod no w9 wr := (HO1.out.2.2.2.2.1.and_then HM4.out).trans hM (fun q hq c => by have := (hge q c).1; omega)
            have hq14 := HS9.out.2.2.2.mod hm5 (fun c => c)
            have hs14 := HS9.out.1.mod hm5 (fun _ c => c)
            have hw14 : KV wr A2 j nm ws := (HO2.out.2.1.mod (HM3.out.and_then HW.out.2) (fun _ _ c => c)).mod hM (fun g hg c => by
              have h1 := (hge g c).2
              have h2 := HO2.out.2.2.2.1 g c.1 hg
              omega)
            have H14 := Lib.hid (And.intro hs14 (And.intro hw14 hm5))
            have q0 := hq14.cell 0
            have q1 := hq14.cell 1
            have q2 := hq14.cell 2
            have q3 := hq14.cell 3
            have q4 := hq14.cell 4
            have q5 := hq14.cell 5
            have q6 := hq14.cell 6
            clear hkv hM hlt hj hge hm5 hq14 hs14 hw14
            go_wp2_with fail
            refine (HP.out wr A9 b9 0 c9 H14.out.1).mono ?_
            rintro e4 w15 ⟨A3, n3, c3, en3, ws3, rfl, ho3, hk3, hg3, hM3, hm6⟩
            obtain ⟨hn13, hen13⟩ := HO1.out.1.same ho3
            subst hn13 hen13
            have hk3' := ws_same HO1.out.2.2.2.1 hM3 hk3
            have H15 := Lib.hid (And.intro hk3' (And.intro (H14.out.2.1.mod hm6 (fun _ _ c => c)) hm6))
            clear q0 q1 q2 q3 q4 q5 q6 ho3 hk3 hg3 hM3 hm6 hk3'
            go_wp2_with fail
            refine (sameKept_any H15.out.1 H15.out.2.1 (by have := HO2.out.2.2.2.2; omega)).mono ?_
            rintro e5 w16 ⟨rfl, hm7⟩
            have HM7 := Lib.hid hm7
            clear hm7
            go_wp2_with fail
            go_ret
            exact ⟨rfl, ((HS9.out.2.2.1.and_then H14.out.2.2).and_then H15.out.2.2).and_then HM7.out⟩
end Go.Proofs.Ytoncjoelkenjnaa.PL
