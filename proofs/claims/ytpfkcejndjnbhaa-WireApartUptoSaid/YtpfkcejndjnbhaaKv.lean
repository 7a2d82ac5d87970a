/- What is added to, a row that was handed on keeping its bytes: numbers, texts, bytes, keys. -/
import Derived.Test.YtpfkcejndjnbhaaKp
namespace Go.Proofs.Ytpfkcejndjnbhaa.EK
open Go.RowKit Mem WM
open Go.Proofs.Ytpfkcejndjnbhaa.WD (RdT RdB u8_info own_mod clone_any own_lower)
open Go.Proofs.Ytpfkcejndjnbhaa.OP (atA cell_lt)
open Go.Proofs.Ytpfkcejndjnbhaa.EN (rds_mod RowA nextA EncAt EncR EncN encS enc_trans one_enc ours_any varBytes_10 or_128 low_8 enc_info)
set_option linter.unusedVariables false
set_option linter.unusedSimpArgs false

theorem ours_anyK {w : World} {g : Nat} {A : Option Addr} {bs : List UInt8} (h : EncR w g A bs) (hl : bs.length ≤ 140737488355328) :
    Calls Try.prog 75 #[.pointer (some ⟨g, 0, none⟩)] w fun e w' => e = .returned (.tuple #[]) ∧ ∃ A', nextK w A bs w' A' bs ∧ EncAt w' g A' bs ∧ Mod (one g) w w' := by
  refine (ours_any h hl).mono ?_
  rintro e w' ⟨rfl, A', hA, hE, hM⟩
  obtain ⟨cs, hb⟩ := h.blk
  exact ⟨rfl, A', ⟨hA, List.prefix_rfl, Safe.one hb (by decide) hM⟩, hE, hM⟩

/-- What a function that adds does. -/
def Added (w : World) (g : Nat) (A : Option Addr) (bs bs' : List UInt8) (w' : World) : Prop := ∃ A', nextK w A bs w' A' bs' ∧ EncAt w' g A' bs' ∧ Mod (encS g A) w w'

theorem Added.then_ {w w1 w2 : World} {g : Nat} {A A1 : Option Addr} {bs bs1 bs2 : List UInt8} (hA : nextK w A bs w1 A1 bs1) (hM : Mod (encS g A) w w1) (h : Added w1 g A1 bs1 bs2 w2) : Added w g A bs bs2 w2 := by
  obtain ⟨A2, n2, e2, m2⟩ := h
  exact ⟨A2, hA.trans n2 hM.size, e2, enc_trans hA.1 hM m2⟩

/-- The row is stored into the Enc. -/
theorem enc_store {w w' : World} {g : Nat} {A A' : Option Addr} {c c' : Nat} {bs bs' : List UInt8} (hb : Blk w g 26 #[.slice A bs.length c, .pointer (some ⟨g, 0, none⟩)]) (hrow : RowA w A c bs) (hA : nextK w A bs w' A' bs') (hrow' : RowA w' A' c' bs') (hM : Mod (atA A) w w') :
    Blk w' g 26 #[.slice A bs.length c, .pointer (some ⟨g, 0, none⟩)] ∧ ∀ n, n = bs'.length → Added w g A bs bs' (w'.setCell ⟨g, 0, none⟩ (.slice A' n c')) := by
  have hb' := hb.mod hM (hrow.ne hb (by decide))
  refine ⟨hb', fun n hn => ?_⟩
  subst hn
  have m1 : Mod (one g) w' (w'.setCell ⟨g, 0, none⟩ (.slice A' bs'.length c')) := (Mod.refl (one g) _).set (p := ⟨g, 0, none⟩) (fun _ => rfl) _
  refine ⟨A', hA.trans ⟨nextA.refl _ _, List.prefix_rfl, Safe.one hb' (by decide) m1⟩ hM.size, ⟨c', by simpa using hb'.put 0 _, hrow'.mod m1 (fun b hb2 c => hrow'.ne hb' (by decide) (by rw [← show b = g from c]; exact hb2))⟩, ?_⟩
  exact (hM.mono (S' := encS g A) (fun _ _ c => .inr c)).and_then (one_enc m1)

def VarInv (w : World) (g : Nat) (A : Option Addr) (bs all : List UInt8) (x : Value) (wr : World) : Prop :=
  ∃ (u : Nat) (A1 : Option Addr) (bs1 : List UInt8), x = .int .u64 (u : Int) ∧ u < 18446744073709551616 ∧ nextK w A bs wr A1 bs1 ∧ EncAt wr g A1 bs1 ∧ Mod (encS g A) w wr ∧ bs1 ++ varBytes u = all

set_option maxRecDepth 100000 in
set_option maxHeartbeats 1000000 in
theorem var_add {w : World} {g : Nat} {A : Option Addr} {bs : List UInt8} (v : Nat) (hv : v < 18446744073709551616) (h : EncR w g A bs) (hl : bs.length ≤ 140737480000000) :
    Calls Try.prog 28 #[.pointer (some ⟨g, 0, none⟩), .int .u64 (v : Int)] w fun e w' => e = .returned (.tuple #[]) ∧ Added w g A bs (bs ++ varBytes v) w' := by
  have H := Lib.hid h
  have HL := Lib.hid hl
  have HV := Lib.hid hv
  obtain ⟨all, hall⟩ : ∃ all, all = bs ++ varBytes v := ⟨_, rfl⟩
  rw [← hall]
  have HA := Lib.hid hall
  have HAL := Lib.hid (show all.length ≤ 140737480000010 by rw [hall]; have := varBytes_10 hv; simp; omega)
  clear h hl hall hv
  go_enter Try.func28, Try.ntmps28
  go_wp2_with (first | (go_at_call 75; refine (ours_anyK H.out (by have := HL.out; omega)).mono ?_; rintro e w1 ⟨rfl, A1, hA1, E1, M1⟩; have HE := Lib.hid E1; have HM := Lib.hid M1; have HA1 := Lib.hid hA1; clear E1 M1 hA1))
  go_loopw [1] (VarInv w g A bs all) (fun x _ => (intOf x).toNat)
  case atStart => exact ⟨v, A1, bs, rfl, HV.out, HA1.out, HE.out, one_enc HM.out, HA.out.symm⟩
  case round =>
    obtain ⟨u, A2, bs2, rfl, hu, hA2, ⟨c2, hb, hrow⟩, M2, hall⟩ := hrel
    have c0 := hb.cell 0
    have c1 := hb.cell 1
    have f0 := hb.free 0
    simp at c0 c1
    have hlen : bs2.length ≤ 140737480000010 := by have := HAL.out; rw [← hall] at this; simp at this; omega
    have HLL := Lib.hid hlen
    have HRW := Lib.hid hrow
    have HM2 := Lib.hid M2
    have HA2 := Lib.hid hA2
    have HALL := Lib.hid hall
    clear hlen hrow M2 hA2 hall
    by_cases h128 : u < 128
    · have hz := low_8 u
      have HZ := Lib.hid hz
      go_wp2_with (at_builtin; refine wpList_encK1 rfl (.tmp 28) (.tmp 31) rfl wr A2 c2 _ bs2 rfl rfl HRW.out (UInt8.ofNat u) _ HZ.out rfl (by have := HLL.out; omega) ?_; intro A3 c3 w3 hA3 hR3 hM3; obtain ⟨hb3, hadd⟩ := enc_store hb HRW.out hA3 hR3 hM3; have d0 := hb3.cell 0; have d1 := hb3.cell 1; have e0 := hb3.free 0; simp at d0 d1; have HADD := Lib.hid hadd; clear hadd hA3 hR3 hM3)
      go_end0
      rw [varBytes_small h128] at HALL
      refine ⟨rfl, ?_⟩
      rw [← HALL.out]
      exact Added.then_ HA2.out HM2.out (HADD.out _ (by simp))
    · have hz := or_128 u
      have HZ := Lib.hid hz
      have hge : (128 : Int) ≤ (u : Int) := by omega
      go_wp2_with (at_builtin; refine wpList_encK1 rfl (.tmp 16) (.tmp 20) rfl wr A2 c2 _ bs2 rfl rfl HRW.out (UInt8.ofNat (u % 128 + 128)) _ HZ.out rfl (by have := HLL.out; omega) ?_; intro A3 c3 w3 hA3 hR3 hM3; obtain ⟨hb3, hadd⟩ := enc_store hb HRW.out hA3 hR3 hM3; have d0 := hb3.cell 0; have d1 := hb3.cell 1; have e0 := hb3.free 0; simp at d0 d1; have HADD := Lib.hid hadd; clear hadd hA3 hR3 hM3)
      obtain ⟨A4, nA, E4, M4⟩ := HADD.out (bs2.length + 1) (by simp)
      refine ⟨⟨u / 128, A4, bs2 ++ [UInt8.ofNat (u % 128 + 128)], rfl, by omega, HA2.out.trans nA HM2.out.size, E4, enc_trans HA2.out.1 HM2.out M4, ?_⟩, ?_⟩
      · rw [List.append_assoc, ← HALL.out, varBytes_big h128]; rfl
      · simp only [intOf]; omega

set_option maxRecDepth 100000 in
set_option maxHeartbeats 1000000 in
theorem text_add {w : World} {g : Nat} {A : Option Addr} {bs : List UInt8} (l : List UInt8) (h : EncR w g A bs) (hl : bs.length + l.length ≤ 140737470000000) :
    Calls Try.prog 36 #[.pointer (some ⟨g, 0, none⟩), .string ⟨l.toArray⟩] w fun e w' => e = .returned (.tuple #[]) ∧ Added w g A bs (bs ++ (varBytes l.length ++ l)) w' := by
  have H := Lib.hid h
  have HL := Lib.hid hl
  have hsz : (ByteArray.mk l.toArray).size = l.length := rfl
  have e1 : IntKind.u64.wrap (l.length : Int) = (l.length : Int) := IntWalk.u64_in _ (by omega)
  have e2 : ((ByteArray.mk l.toArray).size : Int) = (l.length : Int) := rfl
  clear h hl
  go_enter Try.func36, Try.ntmps36
  go_wp2_with fail
  refine (var_add l.length (by have := HL.out; omega) H.out (by have := HL.out; omega)).mono ?_
  rintro e w1 ⟨rfl, A1, hA1, ⟨c1, hb, hrow⟩, M1⟩
  have d0 := hb.cell 0
  have d1 := hb.cell 1
  have f0 := hb.free 0
  simp at d0 d1
  have HRW := Lib.hid hrow
  have HM := Lib.hid M1
  have HA := Lib.hid hA1
  have HVL := Lib.hid (varBytes_10 (v := l.length) (by have := HL.out; omega))
  clear hrow M1 hA1
  go_wp2_with (at_builtin; refine wpList_encKs rfl (.tmp 15) (.tmp 16) rfl w1 A1 c1 _ (bs ++ varBytes l.length) (by simp) rfl HRW.out l rfl (by have := HL.out; have := HVL.out; simp; omega) ?_; intro A3 c3 w3 hA3 hR3 hM3; obtain ⟨hb3, hadd⟩ := enc_store hb HRW.out hA3 hR3 hM3; have g0 := hb3.cell 0; have g1 := hb3.cell 1; have e0 := hb3.free 0; simp at g0 g1; have HADD := Lib.hid hadd; clear hadd hA3 hR3 hM3)
  go_end0
  refine ⟨rfl, ?_⟩
  rw [← List.append_assoc]
  exact Added.then_ HA.out HM.out (HADD.out _ (by simp <;> omega))

set_option maxRecDepth 100000 in
set_option maxHeartbeats 1000000 in
theorem raw_add {w : World} {g : Nat} {A : Option Addr} {bs : List UInt8} {A2 : Option Addr} {n c2 : Nat} (l : List UInt8) (hn : n = l.length) (h : EncR w g A bs) (hl : bs.length + l.length ≤ 140737470000000) (hr : Rds w 1 A2 l.length (bvs l)) (hs : 0 < l.length → ∀ ad, A2 = some ad → ad.block ≠ g) :
    Calls Try.prog 33 #[.pointer (some ⟨g, 0, none⟩), .slice A2 n c2] w fun e w' => e = .returned (.tuple #[]) ∧ Added w g A bs (bs ++ l) w' := by
  have H := Lib.hid h
  have HL := Lib.hid hl
  have HR := Lib.hid hr
  have HS := Lib.hid hs
  have HN := Lib.hid hn
  clear h hl hr hs hn
  go_enter Try.func33, Try.ntmps33
  go_wp2_with fail
  refine (ours_anyK H.out (by have := HL.out; omega)).mono ?_
  rintro e w1 ⟨rfl, A1, hA1, ⟨c1, hb, hrow⟩, M1⟩
  have d0 := hb.cell 0
  have d1 := hb.cell 1
  have f0 := hb.free 0
  simp at d0 d1
  have HRW := Lib.hid hrow
  have HM := Lib.hid M1
  have HA := Lib.hid hA1
  clear hrow M1 hA1
  go_wp2_with (at_builtin; refine wpList_encK rfl (.tmp 12) (.tmp 13) rfl w1 A1 c1 _ bs rfl rfl HRW.out A2 _ c2 l HN.out rfl (by rw [HN.out]; exact rds_mod HR.out HM.out HS.out) (by have := HL.out; have := HN.out; omega) ?_; intro A3 c3 w3 hA3 hR3 hM3; obtain ⟨hb3, hadd⟩ := enc_store hb HRW.out hA3 hR3 hM3; have g0 := hb3.cell 0; have g1 := hb3.cell 1; have e0 := hb3.free 0; simp at g0 g1; have HADD := Lib.hid hadd; clear hadd hA3 hR3 hM3)
  go_end0
  exact ⟨rfl, Added.then_ HA.out (one_enc HM.out) (HADD.out _ (by simp))⟩

set_option maxRecDepth 100000 in
set_option maxHeartbeats 1000000 in
theorem key_add {w : World} {g : Nat} {A : Option Addr} {bs : List UInt8} (K : List UInt8) (hK : K.length = 32) (h : EncR w g A bs) (hl : bs.length ≤ 140737460000000) :
    Calls Try.prog 37 #[.pointer (some ⟨g, 0, none⟩), .agg (bvs K).toArray] w fun e w' => e = .returned (.tuple #[]) ∧ Added w g A bs (bs ++ K) w' := by
  have H := Lib.hid h
  obtain ⟨cs, hgb⟩ := h.blk
  have hg := hgb.lt
  have HL := Lib.hid hl
  clear h hl hgb
  go_enter Try.func37, Try.ntmps37
  go_wp2_with fail
  refine (raw_add K hK.symm (H.out.mod_no ((Mod.refl no w).alloc _)) (by have := HL.out; omega) ?_ ?_).mono ?_
  · have hb := Blk.new w 30 (bvs K).toArray
    exact Rds.of_blk (o := 0) hb (by simp [bvs]) (fun j u hu => by simpa using hu)
  · intro _ ad e
    injection e with e
    subst e
    show w.heap.size ≠ g
    omega
  rintro e w1 ⟨rfl, A1, hA1, E1, M1⟩
  have HE := Lib.hid E1
  have HM := Lib.hid M1
  have HA := Lib.hid hA1
  clear E1 M1 hA1
  go_wp2_with fail
  go_end0
  have M0 : Mod no w (w.alloc (Obj.cells (bvs K).toArray 30)) := (Mod.refl no w).alloc _
  exact ⟨rfl, A1, (nextK.no A bs M0).trans HA.out M0.size, HE.out, (M0.mono (S' := encS g A) (fun _ _ c => False.elim c)).and_then HM.out⟩

end Go.Proofs.Ytpfkcejndjnbhaa.EK
