/- The law on nil objects and a zero taker. -/
import Derived.Test.YtpfkcejndjnbhaaNil
import Derived.Test.YtpfkcejndjnbhaaBackL
import Derived.Deep.OwnRows
namespace Go.Proofs.Ytpfkcejndjnbhaa.NI
open Go.RowKit Mem WM
open Go.Proofs.Ytpfkcejndjnbhaa.WD (RdT u8_info own_mod key_size takeV gotV LiveAt DecAt take_any)
open Go.Proofs.Ytpfkcejndjnbhaa.RD (RLive RAt stands_any took_any takeA_good fault_as)
open Go.Proofs.Ytpfkcejndjnbhaa.OP (AddI AddAt allB Elems TakesInv got_ne ropen_r cell_lt)
open Go.Proofs.Ytpfkcejndjnbhaa.EN (addL addV addA)
open Go.Proofs.Ytpfkcejndjnbhaa.BK (add_range range_mod add_info conv_at)
set_option linter.unusedVariables false
set_option linter.unusedSimpArgs false

theorem zeros_conv (w : World) (q : Nat) (hq : q = w.heap.size) : (convert 23 9 (.slice (some ⟨q, 0, none⟩) 32 32)).run Try.prog (w.alloc (.cells (Array.replicate 32 (.int .u8 0)) 5)) = .ok (.string ⟨(List.replicate 32 (0 : UInt8)).toArray⟩) (w.alloc (.cells (Array.replicate 32 (.int .u8 0)) 5)) := by
  subst hq
  have hb := Blk.new w 5 (Array.replicate 32 (.int .u8 0))
  refine conv_at (l := List.replicate 32 0) (fun j v hv => ?_) 32 32 (by simp) (by simp)
  have hz : bvs (List.replicate 32 0) = List.replicate 32 (.int .u8 0) := by simp only [bvs, List.map_replicate]; rfl
  rw [hz] at hv
  rw [hb.cell, Nat.zero_add, ← hv, Array.getElem?_replicate, List.getElem?_replicate]

theorem make_32 (W : World) : (Instr.makeSlice 23 (.int .i64 32) (.int .i64 32)).run Try.prog W = .ok (.slice (some ⟨W.heap.size, 0, none⟩) 32 32) (W.alloc (.cells (Array.replicate 32 (.int .u8 0)) 5)) := by
  have h := run_make_row' (P := Try.prog) 23 5 (.int .u8 0) 1 Try.underlying23 u8_info rfl .i64 .i64 32 (by omega) (by omega) W
  have e : madeCells #[Value.int .u8 0] 32 = Array.replicate 32 (.int .u8 0) := by kernel_rfl
  rw [e] at h
  exact h

theorem fault_ne (W : World) : (binOp .neq 58 (.agg #[.int .i64 0, .int .i64 1]) (.agg #[.int .i64 0, .int .i64 1])).run Try.prog W = .ok (.bool false) W := by
  have u3 := Try.underlying3
  have u50 := Try.underlying50
  have z3 : (Try.prog.info? 3).map (·.size) = some 1 := by kernel_rfl
  have z50 : (Try.prog.info? 50).map (·.size) = some 1 := by kernel_rfl
  have hS : Try.prog.underlying 58 = some (.struct (Try.prog.fieldsOf 58)) := by kernel_rfl
  have hp : Try.prog.stoodInHeld 58 = false := by kernel_rfl
  rw [run_neq_struct, show (10000 : Nat) = 9999 + 1 from rfl, run_equalIn_agg W 9999 58 _ _ hS hp]
  simp only [Program.fieldsOf, Try.underlying58]
  go_simp

def NInv (W : World) (n : Nat) (i : Value) (wr : World) : Prop := ∃ k : Nat, k ≤ n ∧ i = .int .i64 (k : Int) ∧ Mod no W wr

set_option maxRecDepth 100000 in
set_option maxHeartbeats 4000000 in
theorem nil_law {W : World} {A : Option Addr} {n c : Nat} {E : Nat → List Value} {F : Nat → AddI} (hE : Elems W A n 36 E) (hn : n ≤ 1048576) (hF : ∀ i, i < n → AddAt W (E i) (F i) ∧ (F i).ok)
    {A2 : Option Addr} {m c2 : Nat} {E2 : Nat → List Value} (hE2 : Elems W A2 m 3 E2) (hm : m ≤ 1048576)
    (hT : ∀ i, i < m → ∃ (k : Int) (t : Nat) (u : Int), E2 i = [.int .i64 k, .int .u64 (t : Int), .int .i64 u] ∧ t < 18446744073709551616 ∧ -9223372036854775808 ≤ u ∧ u ≤ 9223372036854775807) :
    Calls Try.prog 8 #[.slice A n c, .slice A2 m c2] W fun e w' => e = .returned (.bool true) ∧ Mod no W w' := by
  have HE := Lib.hid hE
  have HF := Lib.hid hF
  have HE2 := Lib.hid hE2
  have HT := Lib.hid hT
  clear hE hF hE2 hT
  go_enter Try.func8, Try.ntmps8
  go_wp2_with fail
  go_loopw [6] (NInv W n) (fun i _ => n - (intOf i).toNat)
  case atStart => exact ⟨0, Nat.zero_le _, rfl, Mod.refl _ _⟩
  case round =>
    obtain ⟨k, hk, rfl, M⟩ := hrel
    have HM := Lib.hid M
    clear M
    by_cases hlt : k < n
    · obtain ⟨b2, o2, rfl, hcells⟩ := HE.out (by omega)
      have hel := hcells k hlt
      obtain ⟨⟨A3, c3, hEk, hrd⟩, hok⟩ := HF.out k hlt
      have hrgW := add_range (n := n) hel
      have hlen := hel.1
      have hrg := range_mod hrgW HM.out (fun c => c)
      have hinf := add_info hlen
      have HRG := Lib.hid hrg
      have HIN := Lib.hid hinf
      clear hcells hel hrgW hrg hinf hlen hrd
      go_wp2_with (first
        | (with_reducible show wpList _ _ _ _ _ _; refine wpList_load_mid rfl 32 (.tmp 29) rfl b2 (o2 + k * 36) rfl (E k) _ HRG.out Try.underlying32 rfl HIN.out ?_)
        | (go_at_call 10; refine (put0_any (F k).kind (F k).N (F k).S A3 (F k).B.length c3 (F k).K hok.2).mono ?_; rintro e w2 ⟨rfl, M2⟩; have HM2 := Lib.hid M2; clear M2))
      go_roundw
      case rel => exact ⟨k + 1, hlt, by go_num, HM.out.and_then HM2.out⟩
      case measure => simp [intOf]; omega
    · obtain rfl : k = n := by omega
      go_wp2_with (first
        | (go_at_call 13; refine (elen_nil _).mono ?_; rintro e w2 ⟨rfl, rfl⟩)
        | (go_at_call 12; refine (ebytes_nil _).mono ?_; rintro e w2 ⟨rfl, rfl⟩))
      go_loopw [8] (NInv W m) (fun i _ => m - (intOf i).toNat)
      case atStart => exact ⟨0, Nat.zero_le _, rfl, HM.out⟩
      case round =>
        obtain ⟨k2, hk2, rfl, M2⟩ := hrel
        have HM2 := Lib.hid M2
        clear M2
        by_cases hlt2 : k2 < m
        · obtain ⟨b2, o2, rfl, hcells⟩ := HE2.out (by omega)
          obtain ⟨hel, hec⟩ := hcells k2 hlt2
          obtain ⟨kk, mm, u, hEk, hm64, hu1, hu2⟩ := HT.out k2 hlt2
          rw [hEk] at hec
          have e0 := hec 0 (by omega)
          have e1 := hec 1 (by omega)
          have e2 := hec 2 (by omega)
          simp at e0 e1 e2
          have hbW : b2 < W.heap.size := cell_lt e0
          have e0 := (HM2.out.cell (p := ⟨b2, o2 + k2 * 3, none⟩) hbW (fun c => c)).trans e0
          have e1 := (HM2.out.cell (p := ⟨b2, o2 + k2 * 3 + 1, none⟩) hbW (fun c => c)).trans e1
          have e2 := (HM2.out.cell (p := ⟨b2, o2 + k2 * 3 + 2, none⟩) hbW (fun c => c)).trans e2
          have hb2 : b2 < wr.heap.size := cell_lt e0
          have hne := fun W => got_ne W 0 []
          have hne2 := fun W => got_ne W 0 (List.replicate 32 0)
          unfold gotV at hne hne2
          clear hcells hel hec hEk hm64 hu1 hu2
          by_cases h4 : kk = 4
          all_goals
            have HK := Lib.hid h4
            have HTK := fun w => Lib.hid (take0_any (w := w) kk mm u)
            first
              | rw [if_pos h4] at HTK
              | rw [if_neg h4] at HTK
            first
              | (have hb4 : (kk == 4) = true := by simpa using h4)
              | (have hb4 : (kk == 4) = false := by simpa using h4)
            have hzc := zeros_conv
            have hmk := make_32
            clear h4
            go_wp2_with (first
              | (go_at_call 25; refine (HTK _).out.mono ?_
                 rintro e w5 ⟨rfl, M5⟩
                 simp only [gotV]
                 have d0 := (M5.cell (p := ⟨b2, o2 + k2 * 3, none⟩) hb2 (fun c => c)).trans e0
                 have hb5 : b2 < w5.heap.size := Nat.lt_of_lt_of_le hb2 M5.size
                 have hz5 : b2 ≠ w5.heap.size := by omega
                 have HM5 := Lib.hid M5
                 clear M5))
            have hs5 := HM5.out.size
            refine ⟨⟨k2 + 1, hlt2, by go_num, ?_⟩, by simp [intOf]; omega⟩
            first
              | exact ((HM2.out.and_then HM5.out).alloc _).alloc _
              | exact (((HM2.out.and_then HM5.out).alloc _).alloc _).alloc _
        · obtain rfl : k2 = m := by omega
          have has := fun W => fault_as (.agg #[.int .i64 0, .int .i64 1]) W
          have hfn := fault_ne
          go_wp2_with (first
            | (go_at_call 23; refine (eachi_nil _ _ _).mono ?_; rintro e w5 ⟨rfl, rfl⟩)
            | (go_at_call 24; refine (end_nil _).mono ?_; rintro e w5 ⟨rfl, rfl⟩)
            | (go_at_call 32; refine (at_nil _).mono ?_; rintro e w5 ⟨rfl, rfl⟩)
            | (go_at_call 30; refine (left_nil _).mono ?_; rintro e w5 ⟨rfl, rfl⟩))
          have hz : LiveAt (((wr.alloc (.cells #[.int .i64 0] 3)).alloc (.cells #[.int .i64 0, .int .i64 1] 58)).alloc (.cells #[.slice none 0 0, .int .i64 0, .pointer none] 76)) (wr.heap.size + 1 + 1) 0 [] 0 :=
            ⟨none, 0, Blk.new_at _ _ _ (by simp), Nat.le_refl _, Nat.zero_le _, fun h => absurd rfl h, Nat.le_refl _⟩
          have HZ := Lib.hid hz
          clear hz has hfn
          refine (ropen_r (A := none) (c := 0) (l := []) (Rds.zero _ _ _) (by simp)).mono ?_
          rintro e w6 ⟨r, rb, rfl, hr, hrb, RV, M6⟩
          have Z6 : LiveAt w6 (wr.heap.size + 1 + 1) 0 [] 0 := HZ.out.mod M6 (fun c => c) (fun hne c => c)
          have m6 : Mod no W w6 := (((HM2.out.alloc _).alloc _).alloc _).and_then M6
          have HFF := Lib.hid (And.intro (show wr.heap.size + 1 + 1 < r by simp at hr; omega) (show W.heap.size ≤ wr.heap.size from HM2.out.size))
          have HZ6 := Lib.hid Z6
          have HR6 := Lib.hid RV
          have HM6 := Lib.hid m6
          clear Z6 RV m6 M6 hr hrb HZ
          obtain ⟨g, hg⟩ : ∃ g, g = wr.heap.size + 1 + 1 := ⟨_, rfl⟩
          rw [← hg] at HFF HZ6 ⊢
          have HGG := Lib.hid hg
          clear hg
          go_wp2_with fail
          go_loopw [17] (TakesInv W w6 g 0 r rb [] k2) (fun i _ => k2 - (intOf i).toNat)
          case atStart => exact ⟨0, .live 0, Nat.zero_le _, rfl, HZ6.out, HR6.out, trivial, HM6.out, Nat.le_refl _⟩
          case round =>
            obtain ⟨k3, s, hk3, rfl, D, R, G, M7, s7⟩ := hrel
            have HD := Lib.hid D
            have HRR := Lib.hid R
            have HGD := Lib.hid G
            have HM7 := Lib.hid M7
            clear D R G M7
            by_cases hlt3 : k3 < k2
            · obtain ⟨b2, o2, rfl, hcells⟩ := HE2.out (by omega)
              obtain ⟨hel, hec⟩ := hcells k3 hlt3
              obtain ⟨kk, mm, u, hEk, hm64, hu1, hu2⟩ := HT.out k3 hlt3
              rw [hEk] at hec
              have e0 := hec 0 (by omega)
              have e1 := hec 1 (by omega)
              have e2 := hec 2 (by omega)
              simp at e0 e1 e2
              have hbW : b2 < W.heap.size := cell_lt e0
              have e0 := (HM7.out.cell (p := ⟨b2, o2 + k3 * 3, none⟩) hbW (fun c => c)).trans e0
              have e1 := (HM7.out.cell (p := ⟨b2, o2 + k3 * 3 + 1, none⟩) hbW (fun c => c)).trans e1
              have e2 := (HM7.out.cell (p := ⟨b2, o2 + k3 * 3 + 2, none⟩) hbW (fun c => c)).trans e2
              rename_i w7
              have hb2 := cell_lt e0
              obtain ⟨f1, f2⟩ := HFF.out
              have hbg : b2 ≠ g := by have := HGG.out; omega
              have hbr : b2 ≠ r := by have := HGG.out; omega
              have HTK := take_any kk mm u HD.out (by simp) (fun hne => absurd rfl hne) hm64 hu1 hu2
              have HTD := fun (w : World) (R : RAt w r rb [] s) => took_any kk mm u R (by simp) (fun hne => absurd rfl hne) hm64 hu1 hu2
              obtain ⟨S1, hS1⟩ : ∃ S1, S1 = (takeA [] s kk mm u).1 := ⟨_, rfl⟩
              obtain ⟨N, hN⟩ : ∃ N, N = (takeA [] s kk mm u).2.1 := ⟨_, rfl⟩
              obtain ⟨B, hB⟩ : ∃ B, B = (takeA [] s kk mm u).2.2 := ⟨_, rfl⟩
              have hG1 := takeA_good [] s kk mm u HGD.out
              rw [← hS1, ← hN, ← hB] at HTK
              rw [← hS1] at hG1
              simp only [← hS1, ← hN, ← hB] at HTD
              have HTK := Lib.hid HTK
              have HTD := Lib.hid HTD
              have hne := fun W => got_ne W N B
              unfold gotV at hne
              have HG1 := Lib.hid hG1
              clear hS1 hN hB hG1 f1 f2 hcells hel hec hEk hm64 hu1 hu2
              go_wp2_with (first
                | (go_at_call 25; refine HTK.out.mono ?_
                   rintro e w5 ⟨rfl, D5, M5⟩
                   simp only [gotV]
                   have d0 := (M5.cell (p := ⟨b2, o2 + k3 * 3, none⟩) hb2 hbg).trans e0
                   have d1 := (M5.cell (p := ⟨b2, o2 + k3 * 3 + 1, none⟩) hb2 hbg).trans e1
                   have d2 := (M5.cell (p := ⟨b2, o2 + k3 * 3 + 2, none⟩) hb2 hbg).trans e2
                   have hb5 : b2 < w5.heap.size := Nat.lt_of_lt_of_le hb2 M5.size
                   have hz5 : b2 ≠ w5.heap.size := by omega
                   have HD5 := Lib.hid D5
                   have HM5' := Lib.hid M5
                   clear D5 M5)
                | (go_at_call 26
                   have hx := HFF.out
                   have hs5 := HM5'.out.size
                   have R5 := HRR.out.mod HM5'.out (fun c => by simp only [one] at c; omega) (fun hne c => absurd rfl hne)
                   have hrl : r < w5.heap.size := by obtain ⟨ct, hct⟩ := RAt.typ R5; exact hct.lt
                   refine (HTD.out _ (R5.mod ((Mod.refl no w5).alloc _) (fun c => c) (fun _ c => c))).mono ?_
                   rintro e w7 ⟨rfl, R7, M7⟩
                   simp only [gotV]
                   have hb7 : Blk w7 w5.heap.size 66 #[.int .u64 (N : Int), .string ⟨B.toArray⟩] := (Blk.new w5 _ _).mod M7 (fun c => by simp only [one] at c; omega)
                   have q0 := hb7.cell 0
                   have q1 := hb7.cell 1
                   simp at q0 q1
                   have hz7 : w5.heap.size < w7.heap.size := hb7.lt
                   have D7 := WD.DecAt.mod (HD5.out.mod ((Mod.refl no w5).alloc (.cells #[.int .u64 (N : Int), .string ⟨B.toArray⟩] 66)) (fun c => c) (fun _ c => c) (fun _ _ _ c => c)) M7 (fun c => by simp only [one] at c; omega) (fun hne c => absurd rfl hne) (fun f cs hf c => by
                     simp only [one] at c; subst c
                     obtain ⟨ct, hct⟩ := RAt.typ R5
                     have := (Blk.same hf (hct.alloc _)).1
                     exact absurd this (by decide))
                   have HD7 := Lib.hid D7
                   have HR7 := Lib.hid R7
                   have HM7' := Lib.hid M7
                   clear R5 D7 R7 M7 hb7 hx hs5 hrl)
                | (go_at_call 22
                   refine (stands_any (HD7.out.mod ((Mod.refl no w7).alloc _) (fun c => c) (fun _ c => c) (fun _ _ _ c => c)) (HR7.out.mod ((Mod.refl no w7).alloc _) (fun c => c) (fun _ c => c)) HG1.out).mono ?_
                   rintro e w8 ⟨rfl, M8⟩
                   have HM8 := Lib.hid M8
                   clear M8))
              obtain ⟨f1, f2⟩ := HFF.out
              have f3 := HGG.out
              have z1 := HM5'.out.size
              have z2 := HM7'.out.size
              have z3 := HM8.out.size
              simp at z2 z3
              refine ⟨⟨k3 + 1, S1, by omega, by go_num, ?_, ?_, HG1.out, ?_, by omega⟩, ?_⟩
              · exact (HD7.out.mod ((Mod.refl no _).alloc _) (fun c => c) (fun _ c => c) (fun _ _ _ c => c)).mod HM8.out (fun c => c) (fun _ c => c) (fun _ _ _ c => c)
              · exact (HR7.out.mod ((Mod.refl no _).alloc _) (fun c => c) (fun _ c => c)).mod HM8.out (fun c => c) (fun _ c => c)
              · have m5 := HM7.out.trans HM5'.out (fun b hb c => by simp only [one] at c; omega)
                have m7 := (m5.alloc _).trans HM7'.out (fun b hb c => by simp only [one] at c; omega)
                exact (m7.alloc _).and_then HM8.out
              · simp [intOf]; omega
            · obtain rfl : k3 = k2 := by omega
              go_wp2_with fail
              go_ret
              exact ⟨rfl, HM7.out⟩

end Go.Proofs.Ytpfkcejndjnbhaa.NI
