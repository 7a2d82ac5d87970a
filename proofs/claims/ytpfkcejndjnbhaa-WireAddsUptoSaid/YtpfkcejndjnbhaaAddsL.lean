/- The law WireAdds: the walk. -/
import Derived.Test.YtpfkcejndjnbhaaAddsE
import Derived.Test.YtpfkcejndjnbhaaAddsU
import Derived.StillTailTactics
namespace Go.Proofs.Ytpfkcejndjnbhaa.AD
open Go.RowKit Mem WM
open Go.Proofs.Ytpfkcejndjnbhaa.WD (RdT RdB u8_info own_mod key_size rowS conv_string wpList_put1)
open Go.Proofs.Ytpfkcejndjnbhaa.OP (AddI AddAt allB allB_0 allB_succ Elems cell_lt atA copied_r)
open Go.Proofs.Ytpfkcejndjnbhaa.EN
open Go.Proofs.Ytpfkcejndjnbhaa.BK (conv_rds add_range range_mod add_info allB_le)
open Go.Proofs.Ytpfkcejndjnbhaa.ON (wpList_laid addL_len)
set_option linter.unusedVariables false
set_option linter.unusedSimpArgs false


set_option maxRecDepth 100000 in
set_option maxHeartbeats 4000000 in
theorem adds_law {W : World} {A : Option Addr} {n c : Nat} {E : Nat → List Value} {F : Nat → AddI} (hE : Elems W A n 36 E) (hn : n ≤ 1048576)
    (hF : ∀ i, i < n → AddAt W (E i) (F i) ∧ (F i).ok ∧ (F i).S.length + (F i).B.length ≤ 1048576) (hall : (allB F n).length ≤ 60000000)
    {A2 : Option Addr} {m c2 : Nat} {E2 : Nat → List Value} (hE2 : Elems W A2 m 1 E2) (hm : m ≤ 1048576) (hT : ∀ i, i < m → ∃ b : Bool, E2 i = [.bool b]) :
    Calls Try.prog 4 #[.slice A n c, .slice A2 m c2] W fun e w' => e = .returned (.bool true) ∧ Mod no W w' := by
  have HE := Lib.hid hE
  have HF := Lib.hid hF
  have HALL := Lib.hid hall
  have HE2 := Lib.hid hE2
  have HT := Lib.hid hT
  have h1 := Lib.hid (show Enc0 (W.alloc (.cells #[.slice none 0 0, .pointer none] 26)) W.heap.size none [] from .inr ⟨rfl, rfl, Blk.new W _ _⟩)
  clear hE hF hall hE2 hT
  go_enter Try.func4, Try.ntmps4
  go_wp2_with (first
    | (go_at_call 13; refine (len_any h1.out.r).mono ?_; rintro e w1 ⟨rfl, rfl⟩)
    | (go_at_call 12; refine (bytes_any h1.out.r (by simp)).mono ?_
       rintro e w2 ⟨A4, c4, rfl, hown, M2⟩
       have hE2' := Lib.hid (h1.out.mod_no M2)
       have hM2 := Lib.hid (((Mod.refl no W).alloc _).and_then M2)
       clear hown M2))
  rename (∀ (a : Act) (w : World), Code.wp _ (Code.seq (Code.seq (Code.region 24 _ _) _) _) _ a w → _) => hK1
  have HK1 := Lib.hid hK1
  clear hK1
  go_loopw [6, 7, 8, 9] (AddsInv W F W.heap.size n m) (fun _ _ _ i _ => n - (intOf i).toNat)
  case atStart =>
    refine ⟨0, none, none, 0, [], Nat.zero_le _, rfl, Nat.zero_le _, (fun x hx => by simp at hx), ?_⟩
    exact ⟨hE2'.out, rfl, ⟨rfl, .inl ⟨rfl, rfl⟩⟩, ⟨rfl, .inl ⟨rfl, rfl⟩⟩, ⟨rfl, .inl ⟨rfl, rfl⟩⟩, (fun x hx => by simp at hx), (fun b hb => by cases hb), (fun b hb => by cases hb), (fun b hb => by cases hb), hM2.out⟩
  case round =>
    obtain ⟨k, A1, Aa, ca, L, hk, rfl, hLk, hLl, H⟩ := hrel
    obtain rfl := H.all
    have HH := Lib.hid H
    have HLK := Lib.hid (And.intro hLk hLl)
    clear H hLk hLl
    by_cases hlt : k < n
    · obtain ⟨b2, o2, rfl, hcells⟩ := HE.out (by omega)
      have hel := hcells k hlt
      obtain ⟨⟨A3, c3, hEk, hrd⟩, hok, hsz⟩ := HF.out k hlt
      have hrgW := add_range (n := n) hel
      rw [hEk] at hrgW
      have hb2 : b2 < W.heap.size := by
        have := hrgW 0 _ rfl
        exact OP.cell_lt this
      have hrg := range_mod hrgW HH.out.old (fun c => c)
      have hL36 := addL_len (F k).kind (F k).N (F k).S A3 (F k).B.length c3 (F k).K hok.2
      have HRG := Lib.hid hrg
      have HRW := Lib.hid hrgW
      have HIN := Lib.hid (add_info hL36)
      have HRD := Lib.hid hrd
      have HOK := Lib.hid (And.intro hok (And.intro hsz hb2))
      clear hcells hel hrgW hrg hrd hok hsz hEk hL36 hb2
      go_wp2_with (first
        | (refine wpList_load_mid rfl 32 (.tmp 29) rfl b2 (o2 + k * 36) rfl (addL (F k).kind (F k).N (F k).S A3 (F k).B.length c3 (F k).K) _ HRG.out Try.underlying32 rfl HIN.out ?_
           refine wpList_laid rfl rfl wr (.tmp 30) 10 rfl rfl (F k).kind (F k).N (F k).S A3 (F k).B.length c3 (F k).K HOK.out.1.2 rfl rfl ?_
           intro w3 hb3 M3 hs3
           have HB3 := Lib.hid hb3
           have HM3 := Lib.hid M3
           have e3 := ((HH.out.old.and_then M3).cell (p := ⟨b2, o2 + k * 36 + 3, none⟩) HOK.out.2.2 (fun c => c)).trans (HRW.out 3 _ rfl)
           have HS3 := Lib.hid hs3
           clear hb3 M3 hs3)
        | (go_at_call 14
           go_loud (
             refine (copied_r (OP.rds_mod HRD.out (HH.out.old.and_then HM3.out)) (by have := HOK.out.2.1; omega)).mono ?_
             rintro e w4 ⟨A6, c6, rfl, hown, M4⟩
             obtain ⟨hrow6, hge6⟩ := RowA.of hown
             have hb4 := HB3.out.mod M4 (fun c => c)
             have cc3 : w4.cell? ⟨wr.heap.size, 3, none⟩ = some (.slice A3 (F k).B.length c3) := by rw [hb4.cell]; rfl
             have ff3 := hb4.free 3
             have hb5 : Blk (w4.setCell ⟨wr.heap.size, 3, none⟩ (.slice A6 (F k).B.length c6)) wr.heap.size 32 (addL (F k).kind (F k).N (F k).S A6 (F k).B.length c6 (F k).K).toArray := by have := hb4.put 3 (.slice A6 (F k).B.length c6); rw [addL_put] at this; exact this
             have m5 : Mod (one wr.heap.size) w4 (w4.setCell ⟨wr.heap.size, 3, none⟩ (.slice A6 (F k).B.length c6)) := (Mod.refl (one wr.heap.size) _).set (p := ⟨wr.heap.size, 3, none⟩) (fun _ => rfl) _
             have HM4 := Lib.hid (HM3.out.and_then M4)
             have HM5 := Lib.hid m5
             have HB5 := Lib.hid hb5
             have HRO := Lib.hid (hrow6.mod m5 (fun b hb c => by have := hge6 b hb; have := HS3.out; simp only [one] at c; omega))
             have HGE := Lib.hid hge6
             have HRG5 := Lib.hid (show (w4.setCell ⟨wr.heap.size, 3, none⟩ (.slice A6 (F k).B.length c6)).rangeAt wr.heap.size 0 (addL (F k).kind (F k).N (F k).S A6 (F k).B.length c6 (F k).K) from fun j v hv => by rw [hb5.cell, Nat.zero_add, List.getElem?_toArray, hv])
             have HIN5 := Lib.hid (add_info (addL_len (F k).kind (F k).N (F k).S A6 (F k).B.length c6 (F k).K HOK.out.1.2))
             clear hown M4 hrow6 hge6 hb4 hb5 m5))
        | (go_at_call 10
           have hmw : Mod no wr (w4.setCell ⟨wr.heap.size, 3, none⟩ (.slice A6 (F k).B.length c6)) := HM4.out.trans HM5.out (fun b hb c => by simp only [one] at c; omega)
           refine (put_0 (F k).kind (F k).N (F k).S A6 (F k).B.length c6 (F k).K (F k).B (HH.out.enc.mod_no hmw) HOK.out.1.1 HOK.out.1.2 rfl (by have := HALL.out; have := allB_le F hk; have := HOK.out.2.1; omega) HRO.out.rdt.rds ?_).mono ?_
           · intro hp ad e
             subst e
             obtain ⟨b, cur, rfl, hcb⟩ := HRO.out.at_blk rfl
             have := HGE.out b rfl
             have := HS3.out
             have : W.heap.size ≤ wr.heap.size := HH.out.old.size
             obtain ⟨ct, hct⟩ := HH.out.enc.blk
             have := hct.lt
             refine ⟨show b ≠ _ by omega, fun c => ?_⟩
             obtain ⟨cur', hcb'⟩ := HH.out.enc.row b c
             have := hcb'.lt
             omega
           rintro e w6 ⟨rfl, A7, nA, R6, M6⟩
           have HMW := Lib.hid hmw
           have HR6 := Lib.hid R6
           have HM6 := Lib.hid M6
           have HNA := Lib.hid nA
           clear hmw R6 M6 nA)
        | (refine wpList_load_mid rfl 32 (.tmp 10) rfl wr.heap.size 0 rfl (addL (F k).kind (F k).N (F k).S A6 (F k).B.length c6 (F k).K) _ HRG5.out Try.underlying32 rfl HIN5.out ?_))
      have hqr : W.heap.size < wr.heap.size := by obtain ⟨ct, hct⟩ := HH.out.enc.blk; exact hct.lt
      have hnq : ¬ encS W.heap.size A1 wr.heap.size := fun c => by
        rcases c with c | c
        · omega
        · obtain ⟨cur', hcb'⟩ := HH.out.enc.row _ c
          exact Nat.lt_irrefl _ hcb'.lt
      have hb6 := HB5.out.mod HM6.out hnq
      have cc6 : w6.cell? ⟨wr.heap.size, 3, none⟩ = some (.slice A6 (F k).B.length c6) := by rw [hb6.cell]; rfl
      have m6 : Mod no W w6 := (HH.out.old.and_then HMW.out).trans HM6.out (fun b hb c => by
        rcases c with c | c
        · omega
        · have := HH.out.high1 b c; omega)
      have e6 := (m6.cell (p := ⟨b2, o2 + k * 36 + 3, none⟩) HOK.out.2.2 (fun c => c)).trans (HRW.out 3 _ rfl)
      have r6 : RowA w6 A6 c6 (F k).B := HRO.out.mod HM6.out (fun b hb c => by
        have h1 := HGE.out b hb
        have h2 := HS3.out
        rcases c with c | c
        · omega
        · obtain ⟨cur', hcb'⟩ := HH.out.enc.row _ c
          have := hcb'.lt
          omega)
      have hcv6 := fun nq => conv_string (w := w6.drewN nq) (RdT.mod (S := no) r6.rdt ((Mod.refl no w6).drewN nq) (fun _ _ _ c => c)) (F k).B.length c6 rfl
      have hcv7 := fun nq => conv_rds (w := w6.drewN nq) (OP.rds_mod HRD.out (m6.drewN nq)) (F k).B.length c3 rfl
      have HB6 := Lib.hid hb6
      have HMM6 := Lib.hid m6
      have HROW6 := Lib.hid r6
      clear hb6 m6 r6 cc3 ff3 e3
      rename (∀ (a : Act) (w : World), Code.wp _ (Code.seq (Code.seq (Code.region 15 _ _) _) _) _ a w → _) => hK3
      have HK3 := Lib.hid hK3
      clear hK3
      go_quiet (fail)
      have HR7 := Lib.hid (HR6.out.mod_no ((Mod.refl no w6).drewN nq))
      have HB7 := Lib.hid (HB6.out.mod ((Mod.refl no w6).drewN nq) (fun c => c))
      have HM7 := Lib.hid (HM6.out.drewN nq)
      have HROW7 := Lib.hid (HROW6.out.mod ((Mod.refl no w6).drewN nq) (fun _ _ c => c))
      clear cc6 e6 hcv6 hcv7
      generalize w6.drewN nq = w7 at *
      have HCC := Lib.hid (show ∀ w', Mod (atA A6) w7 w' → w'.cell? ⟨wr.heap.size, 3, none⟩ = some (.slice A6 (F k).B.length c6) from fun w' M => by
        have hb7 := HB7.out.mod M (fun c => by
          obtain ⟨b', cur, e, hcb⟩ := HROW7.out.at_blk c
          injection e with e; subst e
          exact absurd (hcb.same HB7.out).1 (by decide))
        rw [hb7.cell]; rfl)
      have HP := fun (w' : World) (M : Mod (atA A6) w7 w') => Lib.hid (HH.out.put (w' := w') (A7 := A7) (((HMW.out.mono (S' := encS W.heap.size A1) (fun _ _ c => False.elim c)).and_then HM7.out).trans M (fun b hb c => by have := HGE.out b c; have := HS3.out; omega)) (Nat.le_refl _) ((nextA.refl wr A1).trans HNA.out HMW.out.size) (by
        have he := HR7.out.mod M (fun c => by have := HGE.out _ c; have := HS3.out; omega) (fun b hb c => by
          have h1 := HGE.out b c
          have h2 := HS3.out
          rcases HNA.out with rfl | ⟨b', hb', rfl⟩
          · obtain ⟨cur, hcb⟩ := HH.out.enc.row b hb
            have := hcb.lt
            omega
          · injection hb with hb; injection hb with hb
            have := HRO.out.lt b c
            omega)
        rw [allB_succ]
        exact he))
      have HKN := Lib.hid (And.intro hk (And.intro hn (And.intro hm (And.intro hlt (And.intro hqr hnq)))))
      clear hk hn hm hlt hqr hnq
      go_wp2_with fail
      obtain ⟨hk, hn, hm, hlt, hqr, hnq⟩ := HKN.out
      refine HK3.out _ _ (loop2_any HE.out hn HF.out HALL.out HE2.out hm HT.out hlt HLK.out HROW7.out HCC.out HP _ _ _ _ _ _ _ _ _ _ _ _ _ _ _ _ _ _ _ _ _ _ _ _ _ _ _ _ _ _ _ _ _ _ _ _ _ _ _ _ _ _ _ _ _ _ _ _ _ _ _ _ _ _ _ _ _ _ _ _ _ _ _ _ _ _ _ _ _ _ _ _ _ _ _ _ _ _ _ _ _ _ _ _ _ _ _ _ _ _ _ _ _ _ _ _ _ _ _ _ _ _ _ _ _ _ _ _ _ _ _ _ _ _ ?_)
      intro u6 u7 u8 u11 u12 u50 u51 u52 u53 u54 u55 u56 u57 u58 u59 u60 u61 u62 u63 u64 u65 u66 u67 u68 u69 u70 u71 u72 u73 u74 u75 u76 u77 u78 u79 u80 u81 u82 u83 u84 u85 u86 u87 u88 u89 u90 u91 u92 u93 w9 hh
      obtain ⟨A1', Aa', ca', L', hLk', hLl', H'⟩ := hh
      have HX := Lib.hid (And.intro hlt (And.intro hLk' (And.intro hLl' H')))
      have hw64 : wrap64 ((k : Int) + 1) = (k : Int) + 1 := IntWalk.wrap64_in _ (by omega)
      clear hk hn hm hlt hqr hnq hLk' hLl' H'
      go_wp2_with fail
      have HM : n - (intOf (Value.int IntKind.i64 (wrap64 ((k : Int) + 1)))).toNat < n - (intOf (Value.int IntKind.i64 (k : Int))).toNat := by
        have h2 := HX.out.1
        rw [hw64]
        show n - ((k : Int) + 1).toNat < n - ((k : Int)).toNat
        omega
      go_roundw
      case rel => exact ⟨k + 1, A1', Aa', ca', L', HX.out.1, by go_num, HX.out.2.1, HX.out.2.2.1, HX.out.2.2.2⟩
      case measure => exact HM
    · obtain rfl : k = n := by omega
      go_wp2_with fail
      refine HK1.out _ _ (last_any HH.out ⟨by have := HLK.out.1; omega, HLK.out.2⟩ HALL.out _ _ _ _ _ _ _ _ _ _ _ _ _ _ _ _ _ _ _ _ _ _ _ _ _ _ _ _ _ _ _ _ _ _ _ _ _ _ _ _ _ _ _ _ _ _ _ _ _ _ _ _ _ _ _ _ _ _ _ _ _ _ _ _ _ _ _ _ _ _ _ _ _ _ _ _ _ _ _ _ _ _ _ _ _ _ _ _ _ _ _ _ _ _ _ _ _ _ _ _ _ _ _ _ _ _ _ _ _ _ _ _ _ _ _ _ _ _ ?_)
      intro u4 u13 u94 u95 u96 u97 u98 u99 u100 u101 u102 u103 u104 u105 u106 u107 u108 u109 u110 u111 u112 u113 u114 u115 u116 u117 u118 u119 u120 w9 h4 M9
      subst h4
      go_ret
      exact ⟨rfl, M9⟩

end Go.Proofs.Ytpfkcejndjnbhaa.AD
