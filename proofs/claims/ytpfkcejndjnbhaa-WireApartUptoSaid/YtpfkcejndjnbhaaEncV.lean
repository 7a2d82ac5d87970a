/- What is added to: numbers, texts, bytes, keys. -/
import Derived.Test.YtpfkcejndjnbhaaEncA
namespace Go.Proofs.Ytpfkcejndjnbhaa.EN
open Go.RowKit Mem WM
open Go.Proofs.Ytpfkcejndjnbhaa.WD (RdT RdB u8_info own_mod clone_any own_lower)
open Go.Proofs.Ytpfkcejndjnbhaa.OP (atA rds_mod)
set_option linter.unusedVariables false
set_option linter.unusedSimpArgs false

theorem varBytes_len : ∀ (k v : Nat), v < 128 ^ (k + 1) → (varBytes v).length ≤ k + 1 := by
  intro k
  induction k with
  | zero => intro v h; rw [varBytes_small (by simpa using h)]; simp
  | succ k ih =>
    intro v h
    by_cases c : v < 128
    · rw [varBytes_small c]; simp
    · rw [varBytes_big c]
      have := ih (v / 128) (by rw [Nat.pow_succ] at h; omega)
      simp; omega
theorem varBytes_10 {v : Nat} (h : v < 18446744073709551616) : (varBytes v).length ≤ 10 :=
  varBytes_len 9 v (Nat.lt_of_lt_of_le h (by decide))

theorem or_128 (u : Nat) : bits .or .u8 (IntKind.u8.wrap (u : Int)) 128 = (((UInt8.ofNat (u % 128 + 128)).toNat : Nat) : Int) := by
  have h1 : IntKind.u8.wrap (u : Int) = ((u % 256 : Nat) : Int) := by simp [IntKind.wrap, IntKind.bits, IntKind.signed]
  have h2 := WB.or_hi ⟨u % 256, Nat.mod_lt _ (by decide)⟩
  rw [h1]
  simp only at h2
  rw [h2, UInt8.toNat_ofNat']
  omega
theorem low_8 (u : Nat) : IntKind.u8.wrap (u : Int) = (((UInt8.ofNat u).toNat : Nat) : Int) := by
  rw [UInt8.toNat_ofNat']
  simp [IntKind.wrap, IntKind.bits, IntKind.signed]

/-- What a function that adds does. -/
def Added (w : World) (g : Nat) (A : Option Addr) (bs' : List UInt8) (w' : World) : Prop := ∃ A', nextA w A A' ∧ EncAt w' g A' bs' ∧ Mod (encS g A) w w'

theorem Added.then_ {w w1 w2 : World} {g : Nat} {A A1 : Option Addr} {bs2 : List UInt8} (hA : nextA w A A1) (hM : Mod (encS g A) w w1) (h : Added w1 g A1 bs2 w2) : Added w g A bs2 w2 := by
  obtain ⟨A2, n2, e2, m2⟩ := h
  exact ⟨A2, hA.trans n2 hM.size, e2, enc_trans hA hM m2⟩

/-- The row is stored into the Enc. -/
theorem enc_store {w w' : World} {g : Nat} {A A' : Option Addr} {c c' : Nat} {bs bs' : List UInt8} (hb : Blk w g 26 #[.slice A bs.length c, .pointer (some ⟨g, 0, none⟩)]) (hrow : RowA w A c bs) (hA : nextA w A A') (hrow' : RowA w' A' c' bs') (hM : Mod (atA A) w w') :
    Blk w' g 26 #[.slice A bs.length c, .pointer (some ⟨g, 0, none⟩)] ∧ ∀ n, n = bs'.length → Added w g A bs' (w'.setCell ⟨g, 0, none⟩ (.slice A' n c')) := by
  have hb' := hb.mod hM (hrow.ne hb (by decide))
  refine ⟨hb', fun n hn => ?_⟩
  subst hn
  have m1 : Mod (one g) w' (w'.setCell ⟨g, 0, none⟩ (.slice A' bs'.length c')) := (Mod.refl (one g) _).set (p := ⟨g, 0, none⟩) (fun _ => rfl) _
  refine ⟨A', hA, ⟨c', by simpa using hb'.put 0 _, hrow'.mod m1 (fun b hb2 c => hrow'.ne hb' (by decide) (by rw [← show b = g from c]; exact hb2))⟩, ?_⟩
  exact (hM.mono (S' := encS g A) (fun _ _ c => .inr c)).and_then (one_enc m1)

def VarInv (w : World) (g : Nat) (A : Option Addr) (all : List UInt8) (x : Value) (wr : World) : Prop :=
  ∃ (u : Nat) (A1 : Option Addr) (bs1 : List UInt8), x = .int .u64 (u : Int) ∧ u < 18446744073709551616 ∧ nextA w A A1 ∧ EncAt wr g A1 bs1 ∧ Mod (encS g A) w wr ∧ bs1 ++ varBytes u = all

set_option maxRecDepth 100000 in
set_option maxHeartbeats 1000000 in
theorem var_add {w : World} {g : Nat} {A : Option Addr} {bs : List UInt8} (v : Nat) (hv : v < 18446744073709551616) (h : EncR w g A bs) (hl : bs.length ≤ 140737480000000) :
    Calls Try.prog 28 #[.pointer (some ⟨g, 0, none⟩), .int .u64 (v : Int)] w fun e w' => e = .returned (.tuple #[]) ∧ Added w g A (bs ++ varBytes v) w' := by
  have H := Lib.hid h
  have HL := Lib.hid hl
  have HV := Lib.hid hv
  obtain ⟨all, hall⟩ : ∃ all, all = bs ++ varBytes v := ⟨_, rfl⟩
  rw [← hall]
  have HA := Lib.hid hall
  have HAL := Lib.hid (show all.length ≤ 140737480000010 by rw [hall]; have := varBytes_10 hv; simp; omega)
  clear h hl hall hv
  go_enter Try.func28, Try.ntmps28
  go_wp2_with (first | (go_at_call 75; refine (ours_any H.out (by have := HL.out; omega)).mono ?_; rintro e w1 ⟨rfl, A1, hA1, E1, M1⟩; have HE := Lib.hid E1; have HM := Lib.hid M1; have HA1 := Lib.hid hA1; clear E1 M1 hA1))
  go_loopw [1] (VarInv w g A all) (fun x _ => (intOf x).toNat)
  case atStart => exact ⟨v, A1, bs, rfl, HV.out, HA1.out, HE.out, one_enc HM.out, HA.out.symm⟩
  case round =>
    obtain ⟨u, A2, bs2, rfl, hu, hA2, ⟨c2, hb, hrow⟩, M2, hall⟩ := hrel
    have c0 := hb.cell 0
    have c1 := hb.cell 1
    have f0 := hb.free 0
    simp at c0 c1
    have hlen : bs2.length ≤ 140737480000010 := by have := HAL.out; rw [← hall] at this; simp at this; omega
    have HLL := Lib.hid hlen
    have HRW := Lib.hid hrow
    have HM2 := Lib.hid M2
    have HA2 := Lib.hid hA2
    have HALL := Lib.hid hall
    clear hlen hrow M2 hA2 hall
    by_cases h128 : u < 128
    · have hz := low_8 u
      have HZ := Lib.hid hz
      go_wp2_with (at_builtin; refine wpList_enc1 rfl (.tmp 28) (.tmp 31) rfl wr A2 c2 _ bs2 rfl rfl HRW.out (UInt8.ofNat u) _ HZ.out rfl (by have := HLL.out; omega) ?_; intro A3 c3 w3 hA3 hR3 hM3; obtain ⟨hb3, hadd⟩ := enc_store hb HRW.out hA3 hR3 hM3; have d0 := hb3.cell 0; have d1 := hb3.cell 1; have e0 := hb3.free 0; simp at d0 d1; have HADD := Lib.hid hadd; clear hadd hA3 hR3 hM3)
      go_end0
      rw [varBytes_small h128] at HALL
      refine ⟨rfl, ?_⟩
      rw [← HALL.out]
      exact Added.then_ HA2.out HM2.out (HADD.out _ (by simp))
    · have hz := or_128 u
      have HZ := Lib.hid hz
      have hge : (128 : Int) ≤ (u : Int) := by omega
      go_wp2_with (at_builtin; refine wpList_enc1 rfl (.tmp 16) (.tmp 20) rfl wr A2 c2 _ bs2 rfl rfl HRW.out (UInt8.ofNat (u % 128 + 128)) _ HZ.out rfl (by have := HLL.out; omega) ?_; intro A3 c3 w3 hA3 hR3 hM3; obtain ⟨hb3, hadd⟩ := enc_store hb HRW.out hA3 hR3 hM3; have d0 := hb3.cell 0; have d1 := hb3.cell 1; have e0 := hb3.free 0; simp at d0 d1; have HADD := Lib.hid hadd; clear hadd hA3 hR3 hM3)
      obtain ⟨A4, nA, E4, M4⟩ := HADD.out (bs2.length + 1) (by simp)
      refine ⟨⟨u / 128, A4, bs2 ++ [UInt8.ofNat (u % 128 + 128)], rfl, by omega, HA2.out.trans nA HM2.out.size, E4, enc_trans HA2.out HM2.out M4, ?_⟩, ?_⟩
      · rw [List.append_assoc, ← HALL.out, varBytes_big h128]; rfl
      · simp only [intOf]; omega

end Go.Proofs.Ytpfkcejndjnbhaa.EN
