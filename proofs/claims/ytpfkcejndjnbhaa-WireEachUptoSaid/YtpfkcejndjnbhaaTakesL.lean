/- The law on takes: what is taken is what the document takes. -/
import Derived.Test.YtpfkcejndjnbhaaOpen
namespace Go.Proofs.Ytpfkcejndjnbhaa.OP
open Go.ChangeShapes Go.WideShapes Go.ChangeAt Go.RowKit Mem WM
open Go.Proofs.Ytpfkcejndjnbhaa.WD (RdT RdB u8_info own_mod LiveAt DecAt own_lower takeV gotV Nums open_any take_any)
open Go.Proofs.Ytpfkcejndjnbhaa.RD (RLive RAt Good stands_any took_any takeA_good)
set_option linter.unusedVariables false
set_option linter.unusedSimpArgs false

theorem got_ne (W : World) (a : Nat) (b : List UInt8) : (binOp .neq 66 (gotV a b) (gotV a b)).run Try.prog W = .ok (.bool false) W := by
  have u28 := Try.underlying28
  have u9 := Try.underlying9
  have z28 : (Try.prog.info? 28).map (·.size) = some 1 := by kernel_rfl
  have z9 : (Try.prog.info? 9).map (·.size) = some 1 := by kernel_rfl
  have hS : Try.prog.underlying 66 = some (.struct (Try.prog.fieldsOf 66)) := by kernel_rfl
  have hp : Try.prog.stoodInHeld 66 = false := by kernel_rfl
  unfold gotV
  rw [run_neq_struct, show (10000 : Nat) = 9999 + 1 from rfl, run_equalIn_agg W 9999 66 _ _ hS hp]
  simp only [Program.fieldsOf, Try.underlying66]
  go_simp

def atA (A : Option Addr) : Nat → Prop := fun b => A = some ⟨b, 0, none⟩

theorem own_at {w : World} {base n c : Nat} {e : TypeId} {A : Option Addr} {xs : List Value} (h : w.ownsRow base e 1 (.slice A n c) n xs) : ∀ b, atA A b → base ≤ b ∧ b < w.heap.size := by
  intro b hb
  rcases h.2 with ⟨hv, _⟩ | ⟨g', cap, cur, hv, hbg, hb', _⟩
  · injection hv with hv; rw [hv] at hb; cases hb
  · injection hv with hv
    rw [hv] at hb
    injection hb with hb
    injection hb with hb
    rw [← hb]
    exact ⟨hbg, Blk.lt (show Blk w g' e cur from hb')⟩

/-- An answer is laid into a new block. -/
theorem got_laid (w : World) (c0 c1 u v : Value) (t : TypeId) : Mod no w (((w.alloc (.cells #[c0, c1] t)).setCell ⟨w.heap.size, 0, none⟩ u).setCell ⟨w.heap.size, 1, none⟩ v) ∧ Blk (((w.alloc (.cells #[c0, c1] t)).setCell ⟨w.heap.size, 0, none⟩ u).setCell ⟨w.heap.size, 1, none⟩ v) w.heap.size t #[u, v] :=
  ⟨(((Mod.refl no w).alloc _).set (p := ⟨w.heap.size, 0, none⟩) (fun c => absurd c (Nat.lt_irrefl _)) u).set (p := ⟨w.heap.size, 1, none⟩) (fun c => absurd c (Nat.lt_irrefl _)) v, by simpa using ((Blk.new w t #[c0, c1]).put 0 u).put 1 v⟩

def TakesInv (W w4 : World) (g gb r rb : Nat) (l : List UInt8) (n : Nat) (i : Value) (wr : World) : Prop :=
  ∃ (k : Nat) (s : St), k ≤ n ∧ i = .int .i64 (k : Int) ∧ DecAt wr g gb l s ∧ RAt wr r rb l s ∧ RD.Good s ∧ Mod no W wr ∧ w4.heap.size ≤ wr.heap.size

def BumpInv (w : World) (base n : Nat) (A : Option Addr) (c : Nat) (i : Value) (wr : World) : Prop :=
  ∃ (k : Nat) (xs : List Value), k ≤ n ∧ i = .int .i64 (k : Int) ∧ wr.ownsRow base 5 1 (.slice A n c) n xs ∧ Nums xs ∧ Mod (atA A) w wr

set_option maxRecDepth 100000 in
set_option maxHeartbeats 2000000 in
theorem takes_law {W : World} {A : Option Addr} {l : List UInt8} {c : Nat} (hR : Rds W 1 A l.length (bvs l)) (hl : l.length ≤ 1048576)
    {A2 : Option Addr} {n c2 : Nat} {E : Nat → List Value} (hE : Elems W A2 n 3 E) (hn : n ≤ 1048576)
    (hT : ∀ i, i < n → ∃ (k : Int) (m : Nat) (u : Int), E i = [.int .i64 k, .int .u64 (m : Int), .int .i64 u] ∧ m < 18446744073709551616 ∧ -9223372036854775808 ≤ u ∧ u ≤ 9223372036854775807) :
    Calls Try.prog 6 #[.slice A l.length c, .slice A2 n c2] W fun e w' => e = .returned (.bool true) ∧ Mod no W w' := by
  have HR := Lib.hid hR
  have HE := Lib.hid hE
  have HL := Lib.hid hl
  have HT := Lib.hid hT
  obtain ⟨L, hL⟩ : ∃ L, L = l.length := ⟨_, rfl⟩
  have HLL := Lib.hid hL
  clear hR hE hl hT
  go_enter Try.func6, Try.ntmps6
  go_wp2_with fail
  refine (copied_r HR.out (by have := HL.out; omega)).mono ?_
  rintro e w1 ⟨A1, k1, rfl, hown, M1⟩
  have HO := Lib.hid hown
  have HM1 := Lib.hid M1
  clear hown M1
  go_wp2_with fail
  refine (open_any (RdT.of_own HO.out) (by have := HL.out; omega)).mono ?_
  rintro e w2 ⟨g, gb, rfl, hg, hgb, LV, M2⟩
  have HM2 := Lib.hid M2
  have HV := Lib.hid LV
  have HG := Lib.hid (And.intro hg hgb)
  clear M2 LV hg hgb
  go_wp2_with fail
  refine (ropen_r (rds_mod HR.out (HM1.out.and_then HM2.out)) (by have := HL.out; omega)).mono ?_
  rintro e w3 ⟨r, rb, rfl, hr, hrb, RV, M3⟩
  have HM3 := Lib.hid M3
  have HRV := Lib.hid RV
  have HRG := Lib.hid (And.intro hr hrb)
  clear M3 RV hr hrb
  rw [← hL]
  have hL63 : L ≤ 1048576 := by rw [hL]; exact HL.out
  clear hL
  go_wp2_with fail
  go_loopw [8] (BumpInv w3 W.heap.size L A1 k1) (fun i _ => L - (intOf i).toNat)
  case atStart =>
    refine ⟨0, _, Nat.zero_le _, rfl, ?_, Nums.bvs l, Mod.refl _ _⟩
    rw [HLL.out]
    exact own_mod (own_mod HO.out HM2.out (fun _ _ c => c)) HM3.out (fun _ _ c => c)
  case round =>
    obtain ⟨k, xs, hk, rfl, hown, hnum, M⟩ := hrel
    by_cases hlt : k < L
    · obtain ⟨b, rfl⟩ : ∃ b, A1 = some ⟨b, 0, none⟩ := by
        rcases hown.2 with ⟨hv, h0⟩ | ⟨g', cap, cur, hv, _⟩
        · omega
        · injection hv with hv; exact ⟨_, hv⟩
      obtain ⟨cur, hb, hcur⟩ : ∃ cur, Blk wr b 5 cur ∧ cur[k]? = xs[k]? := by
        rcases hown.2 with ⟨hv, h0⟩ | ⟨g', cap, cur, hv, _, hb, _, _, _, h4⟩
        · cases hv
        · injection hv with hv
          injection hv with hv
          injection hv with hv
          subst hv
          refine ⟨cur, hb, ?_⟩
          rw [← h4, List.getElem?_take, if_pos (by omega)]; simp
      have hxl : xs.length = L := by have := hown.1; omega
      obtain ⟨t, ht⟩ : ∃ t : Int, xs[k]? = some (.int .u8 t) := by
        obtain ⟨t, ht⟩ := hnum (xs[k]'(by omega)) (List.getElem_mem _)
        exact ⟨t, by rw [List.getElem?_eq_getElem (by omega), ht]⟩
      have ck : wr.cell? ⟨b, k, none⟩ = some (.int .u8 t) := by rw [hb.cell, hcur, ht]
      have fk : wr.frozen? ⟨b, k, none⟩ = false := hb.free k
      have HO2 := Lib.hid hown
      have HM := Lib.hid M
      clear hown hcur ht hxl M
      go_wp2_with fail
      obtain ⟨o2, m2⟩ := WD.own_set HO2.out k (.int .u8 (IntKind.u8.wrap (t + 1)))
      refine ⟨⟨k + 1, _, by omega, by go_num, o2, hnum.set k _, HM.out.set (p := ⟨b, k, none⟩) (fun _ => rfl) _⟩, ?_⟩
      simp [intOf]; omega
    · obtain rfl : k = L := by omega
      have hat := own_at HO.out
      have s2 := HM2.out.size
      have s3 := HM3.out.size
      have s4 := M.size
      obtain ⟨hg, hgb⟩ := HG.out
      obtain ⟨hr, hrb⟩ := HRG.out
      have V2 : LiveAt w3 g gb l 0 := HV.out.mod HM3.out (fun c => c) (fun _ c => c)
      have V4 : LiveAt wr g gb l 0 := V2.mod M (fun c => by have := hat _ c; omega) (fun _ c => by have := hat _ c; omega)
      have R4 : RLive wr r rb l 0 := HRV.out.mod M (fun c => by have := hat _ c; omega) (fun _ c => by have := hat _ c; omega)
      have M4 : Mod no W wr := ((HM1.out.and_then HM2.out).and_then HM3.out).trans M (fun b hb c => by have := hat _ c; omega)
      have hgw : g < w3.heap.size := by obtain ⟨A9, c9, hb9, _⟩ := V2; exact hb9.lt
      have hgbw : l ≠ [] → gb < w3.heap.size := by obtain ⟨A9, c9, hb9, _, _, h9, _⟩ := V2; intro hne; obtain ⟨o9, cs9, _, h8, _⟩ := h9 hne; exact h8.lt
      have hgw2 : g < w2.heap.size := by obtain ⟨A9, c9, hb9, _⟩ := HV.out; exact hb9.lt
      have hgbw2 : l ≠ [] → gb < w2.heap.size := by obtain ⟨A9, c9, hb9, _, _, h9, _⟩ := HV.out; intro hne; obtain ⟨o9, cs9, _, h8, _⟩ := h9 hne; exact h8.lt
      have hrw : r < wr.heap.size := by obtain ⟨A9, c9, hb9, _⟩ := R4; exact hb9.lt
      have hrbw : l ≠ [] → rb < wr.heap.size := by obtain ⟨A9, c9, hb9, _, _, h9, _⟩ := R4; intro hne; obtain ⟨o9, cs9, _, h8, _⟩ := h9 hne; exact h8.lt
      have HF := Lib.hid (And.intro hgw2 (And.intro hgbw2 (And.intro hrw (And.intro hrbw (And.intro (show w2.heap.size ≤ wr.heap.size by omega) (And.intro hr (And.intro hrb (And.intro (show W.heap.size ≤ g by have := HM1.out.size; omega) (show W.heap.size ≤ r by have := HM1.out.size; omega)))))))))
      have HV4 := Lib.hid V4
      have HR4 := Lib.hid R4
      have HM4 := Lib.hid M4
      clear V2 V4 R4 M4 hgw hgbw hgw2 hgbw2 hrw hrbw hg hgb hr hrb s2 s3 s4 hat M hown hnum
      go_wp2_with (first | (go_at_call 22; refine (stands_any (s := .live 0) HV4.out HR4.out trivial).mono ?_; rintro e w5 ⟨rfl, M5⟩; have HM5 := Lib.hid M5; clear M5))
      go_loopw [9] (TakesInv W wr g gb r rb l n) (fun i _ => n - (intOf i).toNat)
      case atStart => exact ⟨0, .live 0, Nat.zero_le _, rfl, WD.DecAt.mod (s := .live 0) HV4.out HM5.out (fun c => c) (fun _ c => c) (fun _ _ _ c => c), RD.RAt.mod (s := .live 0) HR4.out HM5.out (fun c => c) (fun _ c => c), trivial, HM4.out.and_then HM5.out, HM5.out.size⟩
      case round =>
        obtain ⟨k2, s, hk2, rfl, D, R, G, M6, s6⟩ := hrel
        have HD := Lib.hid D
        have HRR := Lib.hid R
        have HGG := Lib.hid G
        have HM6 := Lib.hid M6
        clear D R G M6
        by_cases hlt2 : k2 < n
        · obtain ⟨b2, o2, rfl, hcells⟩ := HE.out (by omega)
          obtain ⟨hel, hec⟩ := hcells k2 hlt2
          obtain ⟨kk, mm, u, hEk, hm64, hu1, hu2⟩ := HT.out k2 hlt2
          rw [hEk] at hec
          have e0 := hec 0 (by omega)
          have e1 := hec 1 (by omega)
          have e2 := hec 2 (by omega)
          simp at e0 e1 e2
          have hbW : b2 < W.heap.size := cell_lt e0
          have e0 := (HM6.out.cell (p := ⟨b2, o2 + k2 * 3, none⟩) hbW (fun c => c)).trans e0
          have e1 := (HM6.out.cell (p := ⟨b2, o2 + k2 * 3 + 1, none⟩) hbW (fun c => c)).trans e1
          have e2 := (HM6.out.cell (p := ⟨b2, o2 + k2 * 3 + 2, none⟩) hbW (fun c => c)).trans e2
          have hb2 : b2 < wr.heap.size := cell_lt e0
          obtain ⟨f1, f2, f3, f4, f5, f6, f7, f8, f9⟩ := HF.out
          have hbg : b2 ≠ g := by omega
          have hbr : b2 ≠ r := by omega
          have HTK := take_any kk mm u HD.out (by have := HL.out; omega) (fun hne => by have := f2 hne; omega) hm64 hu1 hu2
          have HTD := fun (w : World) (R : RAt w r rb l s) (hs : l ≠ [] → rb < w.heap.size) => took_any kk mm u R (by have := HL.out; omega) hs hm64 hu1 hu2
          obtain ⟨S1, hS1⟩ : ∃ S1, S1 = (takeA l s kk mm u).1 := ⟨_, rfl⟩
          obtain ⟨N, hN⟩ : ∃ N, N = (takeA l s kk mm u).2.1 := ⟨_, rfl⟩
          obtain ⟨B, hB⟩ : ∃ B, B = (takeA l s kk mm u).2.2 := ⟨_, rfl⟩
          have hG1 := takeA_good l s kk mm u HGG.out
          rw [← hS1, ← hN, ← hB] at HTK
          rw [← hS1] at hG1
          simp only [← hS1, ← hN, ← hB] at HTD
          have HTK := Lib.hid HTK
          have HTD := Lib.hid HTD
          have hne := fun W => got_ne W N B
          unfold gotV at hne
          have HG1 := Lib.hid hG1
          have HFF := Lib.hid (And.intro f1 (And.intro f2 (And.intro f3 (And.intro f4 (And.intro f5 (And.intro f6 (And.intro f7 (And.intro f8 f9))))))))
          clear hS1 hN hB hG1 f1 f2 f3 f4 f5 f6 f7 f8 f9 hcells hel hec hEk hm64 hu1 hu2
          go_wp2_with (first
            | (go_at_call 25; refine HTK.out.mono ?_
               rintro e w5 ⟨rfl, D5, M5⟩
               simp only [gotV]
               have d0 := (M5.cell (p := ⟨b2, o2 + k2 * 3, none⟩) hb2 hbg).trans e0
               have d1 := (M5.cell (p := ⟨b2, o2 + k2 * 3 + 1, none⟩) hb2 hbg).trans e1
               have d2 := (M5.cell (p := ⟨b2, o2 + k2 * 3 + 2, none⟩) hb2 hbg).trans e2
               have hb5 : b2 < w5.heap.size := Nat.lt_of_lt_of_le hb2 M5.size
               have hz5 : b2 ≠ w5.heap.size := by omega
               have HD5 := Lib.hid D5
               have HM5' := Lib.hid M5
               clear D5 M5)
            | (go_at_call 26
               have hx := HFF.out
               have hs5 := HM5'.out.size
               have R5 := HRR.out.mod HM5'.out (fun c => by simp only [one] at c; omega) (fun hne c => by have := hx.2.1 hne; simp only [one] at c; omega)
               refine (HTD.out _ (R5.mod ((Mod.refl no w5).alloc _) (fun c => c) (fun _ c => c)) ?_).mono ?_
               · intro hne; have := hx.2.2.2.1 hne; have := hs5; simp; omega
               rintro e w7 ⟨rfl, R7, M7⟩
               simp only [gotV]
               have hb7 : Blk w7 w5.heap.size 66 #[.int .u64 (N : Int), .string ⟨B.toArray⟩] := (Blk.new w5 _ _).mod M7 (fun c => by simp only [one] at c; omega)
               have q0 := hb7.cell 0
               have q1 := hb7.cell 1
               simp at q0 q1
               have hz7 : w5.heap.size < w7.heap.size := hb7.lt
               have D7 := WD.DecAt.mod (HD5.out.mod ((Mod.refl no w5).alloc (.cells #[.int .u64 (N : Int), .string ⟨B.toArray⟩] 66)) (fun c => c) (fun _ c => c) (fun _ _ _ c => c)) M7 (fun c => by simp only [one] at c; omega) (fun hne c => by have := hx.2.1 hne; simp only [one] at c; omega) (fun f cs hf c => by
                 simp only [one] at c; subst c
                 obtain ⟨ct, hct⟩ := RAt.typ R5
                 have := (Blk.same hf (hct.alloc _)).1
                 exact absurd this (by decide))
               have HD7 := Lib.hid D7
               have HR7 := Lib.hid R7
               have HM7 := Lib.hid M7
               clear R5 D7 R7 M7 hb7 hx hs5)
            | (go_at_call 22
               refine (stands_any (HD7.out.mod ((Mod.refl no w7).alloc _) (fun c => c) (fun _ c => c) (fun _ _ _ c => c)) (HR7.out.mod ((Mod.refl no w7).alloc _) (fun c => c) (fun _ c => c)) HG1.out).mono ?_
               rintro e w8 ⟨rfl, M8⟩
               have HM8 := Lib.hid M8
               clear M8))
          obtain ⟨f1, f2, f3, f4, f5, f6, f7, f8, f9⟩ := HFF.out
          have z1 := HM5'.out.size
          have z2 := HM7.out.size
          have z3 := HM8.out.size
          simp at z2 z3
          refine ⟨⟨k2 + 1, S1, by omega, by go_num, ?_, ?_, HG1.out, ?_, by omega⟩, ?_⟩
          · exact (HD7.out.mod ((Mod.refl no w7).alloc _) (fun c => c) (fun _ c => c) (fun _ _ _ c => c)).mod HM8.out (fun c => c) (fun _ c => c) (fun _ _ _ c => c)
          · exact (HR7.out.mod ((Mod.refl no w7).alloc _) (fun c => c) (fun _ c => c)).mod HM8.out (fun c => c) (fun _ c => c)
          · have m5 : Mod no W w5 := HM6.out.trans HM5'.out (fun b hb c => by simp only [one] at c; omega)
            have m7 : Mod no W w7 := (m5.alloc _).trans HM7.out (fun b hb c => by simp only [one] at c; omega)
            exact (m7.alloc _).and_then HM8.out
          · simp [intOf]; omega
        · obtain rfl : k2 = n := by omega
          go_wp2_with fail
          go_ret
          exact ⟨rfl, HM6.out⟩

end Go.Proofs.Ytpfkcejndjnbhaa.OP
