/- What is added to: numbers of a fixed width (printed by wireput.py). -/
import Derived.Test.YtpfkcejndjnbhaaEncT
namespace Go.Proofs.Ytpfkcejndjnbhaa.EN
open Go.RowKit Mem WM
open Go.Proofs.Ytpfkcejndjnbhaa.WD (width_int8 width_uint8 width_int16 width_uint16 width_int32 width_uint32 width_int64 width_uint64)
open Go.Proofs.Ytpfkcejndjnbhaa.OP (atA cell_lt)
set_option linter.unusedVariables false
set_option linter.unusedSimpArgs false

theorem fixBytes_mod : ∀ (W u v : Nat), u % 256 ^ W = v % 256 ^ W → fixBytes W u = fixBytes W v := by
  intro W
  induction W with
  | zero => intro u v _; rfl
  | succ W ih =>
    intro u v h
    have e : 256 ^ (W + 1) = 256 * 256 ^ W := Nat.pow_succ'
    rw [e] at h
    have h1 : u % 256 = v % 256 := by
      have := congrArg (· % 256) h
      simpa [Nat.mod_mul_right_mod] using this
    have h2 : u / 256 % 256 ^ W = v / 256 % 256 ^ W := by
      have := congrArg (· / 256) h
      simpa [Nat.mod_mul_right_div_self] using this
    simp only [fixBytes, h1, ih _ _ h2]

def PutInv (w : World) (g : Nat) (A : Option Addr) (all : List UInt8) (W : Nat) (x i : Value) (wr : World) : Prop :=
  ∃ (j u : Nat) (A1 : Option Addr) (bs1 : List UInt8), j ≤ W ∧ i = .int .i64 (j : Int) ∧ x = .int .u64 (u : Int) ∧ u < 18446744073709551616 ∧ nextA w A A1 ∧ EncAt wr g A1 bs1 ∧ Mod (encS g A) w wr ∧ bs1 ++ fixBytes (W - j) u = all

set_option maxRecDepth 100000 in
set_option maxHeartbeats 2000000 in
theorem put_int8 {w : World} {g : Nat} {A : Option Addr} {bs : List UInt8} (V : Int) (U : Nat) (hU : IntKind.u64.wrap V = (U : Int)) (hU64 : U < 18446744073709551616) (h : EncR w g A bs) (hl : bs.length ≤ 140737480000000) :
    Calls Try.prog 38 #[.pointer (some ⟨g, 0, none⟩), .int .i8 V] w fun e w' => e = .returned (.tuple #[]) ∧ Added w g A (bs ++ fixBytes 1 U) w' := by
  have H := Lib.hid h
  have HL := Lib.hid hl
  have HV := Lib.hid hU64
  obtain ⟨all, hall⟩ : ∃ all, all = bs ++ fixBytes 1 U := ⟨_, rfl⟩
  rw [← hall]
  have HA := Lib.hid hall
  have HAL := Lib.hid (show all.length ≤ 140737480000010 by rw [hall]; have := fixBytes_length 1 U; simp; omega)
  have hcv : ∀ W : World, (convert 85 28 (.int .i8 V)).run Try.prog W = .ok (.int .u64 (U : Int)) W := fun W => by
    have := run_convert_int (P := Try.prog) (w := W) 85 28 .i8 V (by rw [Try.underlying85]; rfl) Try.underlying28
    rw [this, show Try.prog.intKind 28 = .u64 from by kernel_rfl, hU]
  clear hU
  clear h hl hall hU64
  go_enter Try.func38, Try.ntmps38
  go_wp2_with (first
    | (go_at_call 75; refine (ours_any H.out (by have := HL.out; omega)).mono ?_; rintro e w1 ⟨rfl, A1, hA1, E1, M1⟩; have HE := Lib.hid E1; have HM := Lib.hid M1; have HA1 := Lib.hid hA1; clear E1 M1 hA1)
    | (go_at_call 76; refine (width_int8 _).mono ?_; rintro e w2 ⟨rfl, rfl⟩))
  go_loopw [4, 12] (PutInv w g A all 1) (fun _ i _ => 1 - (intOf i).toNat)
  case atStart => exact ⟨0, U, A1, bs, Nat.zero_le _, rfl, by first | rfl | rw [HU.out], HV.out, HA1.out, HE.out, one_enc HM.out, HA.out.symm⟩
  case round =>
    obtain ⟨j, u, A2, bs2, hj, rfl, rfl, hu, hA2, ⟨c2, hb, hrow⟩, M2, hall⟩ := hrel
    have c0 := hb.cell 0
    have c1 := hb.cell 1
    have f0 := hb.free 0
    simp at c0 c1
    have hlen : bs2.length ≤ 140737480000010 := by have := HAL.out; rw [← hall] at this; simp at this; omega
    have HLL := Lib.hid hlen
    have HRW := Lib.hid hrow
    have HM2 := Lib.hid M2
    have HA2 := Lib.hid hA2
    have HALL := Lib.hid hall
    clear hlen hrow M2 hA2 hall
    by_cases hlt : j < 1
    · have hz := low_8 u
      have HZ := Lib.hid hz
      go_wp2_with (at_builtin; refine wpList_enc1 rfl (.tmp 18) (.tmp 21) rfl wr A2 c2 _ bs2 rfl rfl HRW.out (UInt8.ofNat u) _ HZ.out rfl (by have := HLL.out; omega) ?_; intro A3 c3 w3 hA3 hR3 hM3; obtain ⟨hb3, hadd⟩ := enc_store hb HRW.out hA3 hR3 hM3; have d0 := hb3.cell 0; have d1 := hb3.cell 1; have e0 := hb3.free 0; simp at d0 d1; have HADD := Lib.hid hadd; clear hadd hA3 hR3 hM3)
      obtain ⟨A4, nA, E4, M4⟩ := HADD.out (bs2.length + 1) (by simp)
      refine ⟨⟨j + 1, u / 256, A4, bs2 ++ [UInt8.ofNat u], hlt, by go_num, rfl, by omega, HA2.out.trans nA HM2.out.size, E4, enc_trans HA2.out HM2.out M4, ?_⟩, ?_⟩
      · rw [List.append_assoc, ← HALL.out, show 1 - j = (1 - (j + 1)) + 1 by omega]
        simp only [fixBytes]
        rw [show UInt8.ofNat (u % 256) = UInt8.ofNat u by apply UInt8.toNat_inj.1; rw [UInt8.toNat_ofNat', UInt8.toNat_ofNat']; omega]
        rfl
      · simp [intOf]; omega
    · obtain rfl : j = 1 := by omega
      go_wp2_with fail
      go_end0
      have he := HALL.out
      simp only [Nat.sub_self, fixBytes, List.append_nil] at he
      subst he
      exact ⟨rfl, A2, HA2.out, ⟨c2, hb, HRW.out⟩, HM2.out⟩

set_option maxRecDepth 100000 in
set_option maxHeartbeats 2000000 in
theorem put_uint8 {w : World} {g : Nat} {A : Option Addr} {bs : List UInt8} (V : Int) (U : Nat) (hU : IntKind.u64.wrap V = (U : Int)) (hU64 : U < 18446744073709551616) (h : EncR w g A bs) (hl : bs.length ≤ 140737480000000) :
    Calls Try.prog 39 #[.pointer (some ⟨g, 0, none⟩), .int .u8 V] w fun e w' => e = .returned (.tuple #[]) ∧ Added w g A (bs ++ fixBytes 1 U) w' := by
  have H := Lib.hid h
  have HL := Lib.hid hl
  have HV := Lib.hid hU64
  obtain ⟨all, hall⟩ : ∃ all, all = bs ++ fixBytes 1 U := ⟨_, rfl⟩
  rw [← hall]
  have HA := Lib.hid hall
  have HAL := Lib.hid (show all.length ≤ 140737480000010 by rw [hall]; have := fixBytes_length 1 U; simp; omega)
  have hcv : ∀ W : World, (convert 5 28 (.int .u8 V)).run Try.prog W = .ok (.int .u64 (U : Int)) W := fun W => by
    have := run_convert_int (P := Try.prog) (w := W) 5 28 .u8 V (by rw [Try.underlying5]; rfl) Try.underlying28
    rw [this, show Try.prog.intKind 28 = .u64 from by kernel_rfl, hU]
  clear hU
  clear h hl hall hU64
  go_enter Try.func39, Try.ntmps39
  go_wp2_with (first
    | (go_at_call 75; refine (ours_any H.out (by have := HL.out; omega)).mono ?_; rintro e w1 ⟨rfl, A1, hA1, E1, M1⟩; have HE := Lib.hid E1; have HM := Lib.hid M1; have HA1 := Lib.hid hA1; clear E1 M1 hA1)
    | (go_at_call 77; refine (width_uint8 _).mono ?_; rintro e w2 ⟨rfl, rfl⟩))
  go_loopw [4, 12] (PutInv w g A all 1) (fun _ i _ => 1 - (intOf i).toNat)
  case atStart => exact ⟨0, U, A1, bs, Nat.zero_le _, rfl, by first | rfl | rw [HU.out], HV.out, HA1.out, HE.out, one_enc HM.out, HA.out.symm⟩
  case round =>
    obtain ⟨j, u, A2, bs2, hj, rfl, rfl, hu, hA2, ⟨c2, hb, hrow⟩, M2, hall⟩ := hrel
    have c0 := hb.cell 0
    have c1 := hb.cell 1
    have f0 := hb.free 0
    simp at c0 c1
    have hlen : bs2.length ≤ 140737480000010 := by have := HAL.out; rw [← hall] at this; simp at this; omega
    have HLL := Lib.hid hlen
    have HRW := Lib.hid hrow
    have HM2 := Lib.hid M2
    have HA2 := Lib.hid hA2
    have HALL := Lib.hid hall
    clear hlen hrow M2 hA2 hall
    by_cases hlt : j < 1
    · have hz := low_8 u
      have HZ := Lib.hid hz
      go_wp2_with (at_builtin; refine wpList_enc1 rfl (.tmp 18) (.tmp 21) rfl wr A2 c2 _ bs2 rfl rfl HRW.out (UInt8.ofNat u) _ HZ.out rfl (by have := HLL.out; omega) ?_; intro A3 c3 w3 hA3 hR3 hM3; obtain ⟨hb3, hadd⟩ := enc_store hb HRW.out hA3 hR3 hM3; have d0 := hb3.cell 0; have d1 := hb3.cell 1; have e0 := hb3.free 0; simp at d0 d1; have HADD := Lib.hid hadd; clear hadd hA3 hR3 hM3)
      obtain ⟨A4, nA, E4, M4⟩ := HADD.out (bs2.length + 1) (by simp)
      refine ⟨⟨j + 1, u / 256, A4, bs2 ++ [UInt8.ofNat u], hlt, by go_num, rfl, by omega, HA2.out.trans nA HM2.out.size, E4, enc_trans HA2.out HM2.out M4, ?_⟩, ?_⟩
      · rw [List.append_assoc, ← HALL.out, show 1 - j = (1 - (j + 1)) + 1 by omega]
        simp only [fixBytes]
        rw [show UInt8.ofNat (u % 256) = UInt8.ofNat u by apply UInt8.toNat_inj.1; rw [UInt8.toNat_ofNat', UInt8.toNat_ofNat']; omega]
        rfl
      · simp [intOf]; omega
    · obtain rfl : j = 1 := by omega
      go_wp2_with fail
      go_end0
      have he := HALL.out
      simp only [Nat.sub_self, fixBytes, List.append_nil] at he
      subst he
      exact ⟨rfl, A2, HA2.out, ⟨c2, hb, HRW.out⟩, HM2.out⟩

set_option maxRecDepth 100000 in
set_option maxHeartbeats 2000000 in
theorem put_int16 {w : World} {g : Nat} {A : Option Addr} {bs : List UInt8} (V : Int) (U : Nat) (hU : IntKind.u64.wrap V = (U : Int)) (hU64 : U < 18446744073709551616) (h : EncR w g A bs) (hl : bs.length ≤ 140737480000000) :
    Calls Try.prog 40 #[.pointer (some ⟨g, 0, none⟩), .int .i16 V] w fun e w' => e = .returned (.tuple #[]) ∧ Added w g A (bs ++ fixBytes 2 U) w' := by
  have H := Lib.hid h
  have HL := Lib.hid hl
  have HV := Lib.hid hU64
  obtain ⟨all, hall⟩ : ∃ all, all = bs ++ fixBytes 2 U := ⟨_, rfl⟩
  rw [← hall]
  have HA := Lib.hid hall
  have HAL := Lib.hid (show all.length ≤ 140737480000010 by rw [hall]; have := fixBytes_length 2 U; simp; omega)
  have hcv : ∀ W : World, (convert 88 28 (.int .i16 V)).run Try.prog W = .ok (.int .u64 (U : Int)) W := fun W => by
    have := run_convert_int (P := Try.prog) (w := W) 88 28 .i16 V (by rw [Try.underlying88]; rfl) Try.underlying28
    rw [this, show Try.prog.intKind 28 = .u64 from by kernel_rfl, hU]
  clear hU
  clear h hl hall hU64
  go_enter Try.func40, Try.ntmps40
  go_wp2_with (first
    | (go_at_call 75; refine (ours_any H.out (by have := HL.out; omega)).mono ?_; rintro e w1 ⟨rfl, A1, hA1, E1, M1⟩; have HE := Lib.hid E1; have HM := Lib.hid M1; have HA1 := Lib.hid hA1; clear E1 M1 hA1)
    | (go_at_call 78; refine (width_int16 _).mono ?_; rintro e w2 ⟨rfl, rfl⟩))
  go_loopw [4, 12] (PutInv w g A all 2) (fun _ i _ => 2 - (intOf i).toNat)
  case atStart => exact ⟨0, U, A1, bs, Nat.zero_le _, rfl, by first | rfl | rw [HU.out], HV.out, HA1.out, HE.out, one_enc HM.out, HA.out.symm⟩
  case round =>
    obtain ⟨j, u, A2, bs2, hj, rfl, rfl, hu, hA2, ⟨c2, hb, hrow⟩, M2, hall⟩ := hrel
    have c0 := hb.cell 0
    have c1 := hb.cell 1
    have f0 := hb.free 0
    simp at c0 c1
    have hlen : bs2.length ≤ 140737480000010 := by have := HAL.out; rw [← hall] at this; simp at this; omega
    have HLL := Lib.hid hlen
    have HRW := Lib.hid hrow
    have HM2 := Lib.hid M2
    have HA2 := Lib.hid hA2
    have HALL := Lib.hid hall
    clear hlen hrow M2 hA2 hall
    by_cases hlt : j < 2
    · have hz := low_8 u
      have HZ := Lib.hid hz
      go_wp2_with (at_builtin; refine wpList_enc1 rfl (.tmp 18) (.tmp 21) rfl wr A2 c2 _ bs2 rfl rfl HRW.out (UInt8.ofNat u) _ HZ.out rfl (by have := HLL.out; omega) ?_; intro A3 c3 w3 hA3 hR3 hM3; obtain ⟨hb3, hadd⟩ := enc_store hb HRW.out hA3 hR3 hM3; have d0 := hb3.cell 0; have d1 := hb3.cell 1; have e0 := hb3.free 0; simp at d0 d1; have HADD := Lib.hid hadd; clear hadd hA3 hR3 hM3)
      obtain ⟨A4, nA, E4, M4⟩ := HADD.out (bs2.length + 1) (by simp)
      refine ⟨⟨j + 1, u / 256, A4, bs2 ++ [UInt8.ofNat u], hlt, by go_num, rfl, by omega, HA2.out.trans nA HM2.out.size, E4, enc_trans HA2.out HM2.out M4, ?_⟩, ?_⟩
      · rw [List.append_assoc, ← HALL.out, show 2 - j = (2 - (j + 1)) + 1 by omega]
        simp only [fixBytes]
        rw [show UInt8.ofNat (u % 256) = UInt8.ofNat u by apply UInt8.toNat_inj.1; rw [UInt8.toNat_ofNat', UInt8.toNat_ofNat']; omega]
        rfl
      · simp [intOf]; omega
    · obtain rfl : j = 2 := by omega
      go_wp2_with fail
      go_end0
      have he := HALL.out
      simp only [Nat.sub_self, fixBytes, List.append_nil] at he
      subst he
      exact ⟨rfl, A2, HA2.out, ⟨c2, hb, HRW.out⟩, HM2.out⟩

set_option maxRecDepth 100000 in
set_option maxHeartbeats 2000000 in
theorem put_uint16 {w : World} {g : Nat} {A : Option Addr} {bs : List UInt8} (V : Int) (U : Nat) (hU : IntKind.u64.wrap V = (U : Int)) (hU64 : U < 18446744073709551616) (h : EncR w g A bs) (hl : bs.length ≤ 140737480000000) :
    Calls Try.prog 41 #[.pointer (some ⟨g, 0, none⟩), .int .u16 V] w fun e w' => e = .returned (.tuple #[]) ∧ Added w g A (bs ++ fixBytes 2 U) w' := by
  have H := Lib.hid h
  have HL := Lib.hid hl
  have HV := Lib.hid hU64
  obtain ⟨all, hall⟩ : ∃ all, all = bs ++ fixBytes 2 U := ⟨_, rfl⟩
  rw [← hall]
  have HA := Lib.hid hall
  have HAL := Lib.hid (show all.length ≤ 140737480000010 by rw [hall]; have := fixBytes_length 2 U; simp; omega)
  have hcv : ∀ W : World, (convert 90 28 (.int .u16 V)).run Try.prog W = .ok (.int .u64 (U : Int)) W := fun W => by
    have := run_convert_int (P := Try.prog) (w := W) 90 28 .u16 V (by rw [Try.underlying90]; rfl) Try.underlying28
    rw [this, show Try.prog.intKind 28 = .u64 from by kernel_rfl, hU]
  clear hU
  clear h hl hall hU64
  go_enter Try.func41, Try.ntmps41
  go_wp2_with (first
    | (go_at_call 75; refine (ours_any H.out (by have := HL.out; omega)).mono ?_; rintro e w1 ⟨rfl, A1, hA1, E1, M1⟩; have HE := Lib.hid E1; have HM := Lib.hid M1; have HA1 := Lib.hid hA1; clear E1 M1 hA1)
    | (go_at_call 79; refine (width_uint16 _).mono ?_; rintro e w2 ⟨rfl, rfl⟩))
  go_loopw [4, 12] (PutInv w g A all 2) (fun _ i _ => 2 - (intOf i).toNat)
  case atStart => exact ⟨0, U, A1, bs, Nat.zero_le _, rfl, by first | rfl | rw [HU.out], HV.out, HA1.out, HE.out, one_enc HM.out, HA.out.symm⟩
  case round =>
    obtain ⟨j, u, A2, bs2, hj, rfl, rfl, hu, hA2, ⟨c2, hb, hrow⟩, M2, hall⟩ := hrel
    have c0 := hb.cell 0
    have c1 := hb.cell 1
    have f0 := hb.free 0
    simp at c0 c1
    have hlen : bs2.length ≤ 140737480000010 := by have := HAL.out; rw [← hall] at this; simp at this; omega
    have HLL := Lib.hid hlen
    have HRW := Lib.hid hrow
    have HM2 := Lib.hid M2
    have HA2 := Lib.hid hA2
    have HALL := Lib.hid hall
    clear hlen hrow M2 hA2 hall
    by_cases hlt : j < 2
    · have hz := low_8 u
      have HZ := Lib.hid hz
      go_wp2_with (at_builtin; refine wpList_enc1 rfl (.tmp 18) (.tmp 21) rfl wr A2 c2 _ bs2 rfl rfl HRW.out (UInt8.ofNat u) _ HZ.out rfl (by have := HLL.out; omega) ?_; intro A3 c3 w3 hA3 hR3 hM3; obtain ⟨hb3, hadd⟩ := enc_store hb HRW.out hA3 hR3 hM3; have d0 := hb3.cell 0; have d1 := hb3.cell 1; have e0 := hb3.free 0; simp at d0 d1; have HADD := Lib.hid hadd; clear hadd hA3 hR3 hM3)
      obtain ⟨A4, nA, E4, M4⟩ := HADD.out (bs2.length + 1) (by simp)
      refine ⟨⟨j + 1, u / 256, A4, bs2 ++ [UInt8.ofNat u], hlt, by go_num, rfl, by omega, HA2.out.trans nA HM2.out.size, E4, enc_trans HA2.out HM2.out M4, ?_⟩, ?_⟩
      · rw [List.append_assoc, ← HALL.out, show 2 - j = (2 - (j + 1)) + 1 by omega]
        simp only [fixBytes]
        rw [show UInt8.ofNat (u % 256) = UInt8.ofNat u by apply UInt8.toNat_inj.1; rw [UInt8.toNat_ofNat', UInt8.toNat_ofNat']; omega]
        rfl
      · simp [intOf]; omega
    · obtain rfl : j = 2 := by omega
      go_wp2_with fail
      go_end0
      have he := HALL.out
      simp only [Nat.sub_self, fixBytes, List.append_nil] at he
      subst he
      exact ⟨rfl, A2, HA2.out, ⟨c2, hb, HRW.out⟩, HM2.out⟩

set_option maxRecDepth 100000 in
set_option maxHeartbeats 2000000 in
theorem put_int32 {w : World} {g : Nat} {A : Option Addr} {bs : List UInt8} (V : Int) (U : Nat) (hU : IntKind.u64.wrap V = (U : Int)) (hU64 : U < 18446744073709551616) (h : EncR w g A bs) (hl : bs.length ≤ 140737480000000) :
    Calls Try.prog 42 #[.pointer (some ⟨g, 0, none⟩), .int .i32 V] w fun e w' => e = .returned (.tuple #[]) ∧ Added w g A (bs ++ fixBytes 4 U) w' := by
  have H := Lib.hid h
  have HL := Lib.hid hl
  have HV := Lib.hid hU64
  obtain ⟨all, hall⟩ : ∃ all, all = bs ++ fixBytes 4 U := ⟨_, rfl⟩
  rw [← hall]
  have HA := Lib.hid hall
  have HAL := Lib.hid (show all.length ≤ 140737480000010 by rw [hall]; have := fixBytes_length 4 U; simp; omega)
  have hcv : ∀ W : World, (convert 21 28 (.int .i32 V)).run Try.prog W = .ok (.int .u64 (U : Int)) W := fun W => by
    have := run_convert_int (P := Try.prog) (w := W) 21 28 .i32 V (by rw [Try.underlying21]; rfl) Try.underlying28
    rw [this, show Try.prog.intKind 28 = .u64 from by kernel_rfl, hU]
  clear hU
  clear h hl hall hU64
  go_enter Try.func42, Try.ntmps42
  go_wp2_with (first
    | (go_at_call 75; refine (ours_any H.out (by have := HL.out; omega)).mono ?_; rintro e w1 ⟨rfl, A1, hA1, E1, M1⟩; have HE := Lib.hid E1; have HM := Lib.hid M1; have HA1 := Lib.hid hA1; clear E1 M1 hA1)
    | (go_at_call 80; refine (width_int32 _).mono ?_; rintro e w2 ⟨rfl, rfl⟩))
  go_loopw [4, 12] (PutInv w g A all 4) (fun _ i _ => 4 - (intOf i).toNat)
  case atStart => exact ⟨0, U, A1, bs, Nat.zero_le _, rfl, by first | rfl | rw [HU.out], HV.out, HA1.out, HE.out, one_enc HM.out, HA.out.symm⟩
  case round =>
    obtain ⟨j, u, A2, bs2, hj, rfl, rfl, hu, hA2, ⟨c2, hb, hrow⟩, M2, hall⟩ := hrel
    have c0 := hb.cell 0
    have c1 := hb.cell 1
    have f0 := hb.free 0
    simp at c0 c1
    have hlen : bs2.length ≤ 140737480000010 := by have := HAL.out; rw [← hall] at this; simp at this; omega
    have HLL := Lib.hid hlen
    have HRW := Lib.hid hrow
    have HM2 := Lib.hid M2
    have HA2 := Lib.hid hA2
    have HALL := Lib.hid hall
    clear hlen hrow M2 hA2 hall
    by_cases hlt : j < 4
    · have hz := low_8 u
      have HZ := Lib.hid hz
      go_wp2_with (at_builtin; refine wpList_enc1 rfl (.tmp 18) (.tmp 21) rfl wr A2 c2 _ bs2 rfl rfl HRW.out (UInt8.ofNat u) _ HZ.out rfl (by have := HLL.out; omega) ?_; intro A3 c3 w3 hA3 hR3 hM3; obtain ⟨hb3, hadd⟩ := enc_store hb HRW.out hA3 hR3 hM3; have d0 := hb3.cell 0; have d1 := hb3.cell 1; have e0 := hb3.free 0; simp at d0 d1; have HADD := Lib.hid hadd; clear hadd hA3 hR3 hM3)
      obtain ⟨A4, nA, E4, M4⟩ := HADD.out (bs2.length + 1) (by simp)
      refine ⟨⟨j + 1, u / 256, A4, bs2 ++ [UInt8.ofNat u], hlt, by go_num, rfl, by omega, HA2.out.trans nA HM2.out.size, E4, enc_trans HA2.out HM2.out M4, ?_⟩, ?_⟩
      · rw [List.append_assoc, ← HALL.out, show 4 - j = (4 - (j + 1)) + 1 by omega]
        simp only [fixBytes]
        rw [show UInt8.ofNat (u % 256) = UInt8.ofNat u by apply UInt8.toNat_inj.1; rw [UInt8.toNat_ofNat', UInt8.toNat_ofNat']; omega]
        rfl
      · simp [intOf]; omega
    · obtain rfl : j = 4 := by omega
      go_wp2_with fail
      go_end0
      have he := HALL.out
      simp only [Nat.sub_self, fixBytes, List.append_nil] at he
      subst he
      exact ⟨rfl, A2, HA2.out, ⟨c2, hb, HRW.out⟩, HM2.out⟩

set_option maxRecDepth 100000 in
set_option maxHeartbeats 2000000 in
theorem put_uint32 {w : World} {g : Nat} {A : Option Addr} {bs : List UInt8} (V : Int) (U : Nat) (hU : IntKind.u64.wrap V = (U : Int)) (hU64 : U < 18446744073709551616) (h : EncR w g A bs) (hl : bs.length ≤ 140737480000000) :
    Calls Try.prog 43 #[.pointer (some ⟨g, 0, none⟩), .int .u32 V] w fun e w' => e = .returned (.tuple #[]) ∧ Added w g A (bs ++ fixBytes 4 U) w' := by
  have H := Lib.hid h
  have HL := Lib.hid hl
  have HV := Lib.hid hU64
  obtain ⟨all, hall⟩ : ∃ all, all = bs ++ fixBytes 4 U := ⟨_, rfl⟩
  rw [← hall]
  have HA := Lib.hid hall
  have HAL := Lib.hid (show all.length ≤ 140737480000010 by rw [hall]; have := fixBytes_length 4 U; simp; omega)
  have hcv : ∀ W : World, (convert 93 28 (.int .u32 V)).run Try.prog W = .ok (.int .u64 (U : Int)) W := fun W => by
    have := run_convert_int (P := Try.prog) (w := W) 93 28 .u32 V (by rw [Try.underlying93]; rfl) Try.underlying28
    rw [this, show Try.prog.intKind 28 = .u64 from by kernel_rfl, hU]
  clear hU
  clear h hl hall hU64
  go_enter Try.func43, Try.ntmps43
  go_wp2_with (first
    | (go_at_call 75; refine (ours_any H.out (by have := HL.out; omega)).mono ?_; rintro e w1 ⟨rfl, A1, hA1, E1, M1⟩; have HE := Lib.hid E1; have HM := Lib.hid M1; have HA1 := Lib.hid hA1; clear E1 M1 hA1)
    | (go_at_call 81; refine (width_uint32 _).mono ?_; rintro e w2 ⟨rfl, rfl⟩))
  go_loopw [4, 12] (PutInv w g A all 4) (fun _ i _ => 4 - (intOf i).toNat)
  case atStart => exact ⟨0, U, A1, bs, Nat.zero_le _, rfl, by first | rfl | rw [HU.out], HV.out, HA1.out, HE.out, one_enc HM.out, HA.out.symm⟩
  case round =>
    obtain ⟨j, u, A2, bs2, hj, rfl, rfl, hu, hA2, ⟨c2, hb, hrow⟩, M2, hall⟩ := hrel
    have c0 := hb.cell 0
    have c1 := hb.cell 1
    have f0 := hb.free 0
    simp at c0 c1
    have hlen : bs2.length ≤ 140737480000010 := by have := HAL.out; rw [← hall] at this; simp at this; omega
    have HLL := Lib.hid hlen
    have HRW := Lib.hid hrow
    have HM2 := Lib.hid M2
    have HA2 := Lib.hid hA2
    have HALL := Lib.hid hall
    clear hlen hrow M2 hA2 hall
    by_cases hlt : j < 4
    · have hz := low_8 u
      have HZ := Lib.hid hz
      go_wp2_with (at_builtin; refine wpList_enc1 rfl (.tmp 18) (.tmp 21) rfl wr A2 c2 _ bs2 rfl rfl HRW.out (UInt8.ofNat u) _ HZ.out rfl (by have := HLL.out; omega) ?_; intro A3 c3 w3 hA3 hR3 hM3; obtain ⟨hb3, hadd⟩ := enc_store hb HRW.out hA3 hR3 hM3; have d0 := hb3.cell 0; have d1 := hb3.cell 1; have e0 := hb3.free 0; simp at d0 d1; have HADD := Lib.hid hadd; clear hadd hA3 hR3 hM3)
      obtain ⟨A4, nA, E4, M4⟩ := HADD.out (bs2.length + 1) (by simp)
      refine ⟨⟨j + 1, u / 256, A4, bs2 ++ [UInt8.ofNat u], hlt, by go_num, rfl, by omega, HA2.out.trans nA HM2.out.size, E4, enc_trans HA2.out HM2.out M4, ?_⟩, ?_⟩
      · rw [List.append_assoc, ← HALL.out, show 4 - j = (4 - (j + 1)) + 1 by omega]
        simp only [fixBytes]
        rw [show UInt8.ofNat (u % 256) = UInt8.ofNat u by apply UInt8.toNat_inj.1; rw [UInt8.toNat_ofNat', UInt8.toNat_ofNat']; omega]
        rfl
      · simp [intOf]; omega
    · obtain rfl : j = 4 := by omega
      go_wp2_with fail
      go_end0
      have he := HALL.out
      simp only [Nat.sub_self, fixBytes, List.append_nil] at he
      subst he
      exact ⟨rfl, A2, HA2.out, ⟨c2, hb, HRW.out⟩, HM2.out⟩

set_option maxRecDepth 100000 in
set_option maxHeartbeats 2000000 in
theorem put_int64 {w : World} {g : Nat} {A : Option Addr} {bs : List UInt8} (V : Int) (U : Nat) (hU : IntKind.u64.wrap V = (U : Int)) (hU64 : U < 18446744073709551616) (h : EncR w g A bs) (hl : bs.length ≤ 140737480000000) :
    Calls Try.prog 44 #[.pointer (some ⟨g, 0, none⟩), .int .i64 V] w fun e w' => e = .returned (.tuple #[]) ∧ Added w g A (bs ++ fixBytes 8 U) w' := by
  have H := Lib.hid h
  have HL := Lib.hid hl
  have HV := Lib.hid hU64
  obtain ⟨all, hall⟩ : ∃ all, all = bs ++ fixBytes 8 U := ⟨_, rfl⟩
  rw [← hall]
  have HA := Lib.hid hall
  have HAL := Lib.hid (show all.length ≤ 140737480000010 by rw [hall]; have := fixBytes_length 8 U; simp; omega)
  have hcv : ∀ W : World, (convert 2 28 (.int .i64 V)).run Try.prog W = .ok (.int .u64 (U : Int)) W := fun W => by
    have := run_convert_int (P := Try.prog) (w := W) 2 28 .i64 V (by rw [Try.underlying2]; rfl) Try.underlying28
    rw [this, show Try.prog.intKind 28 = .u64 from by kernel_rfl, hU]
  clear hU
  clear h hl hall hU64
  go_enter Try.func44, Try.ntmps44
  go_wp2_with (first
    | (go_at_call 75; refine (ours_any H.out (by have := HL.out; omega)).mono ?_; rintro e w1 ⟨rfl, A1, hA1, E1, M1⟩; have HE := Lib.hid E1; have HM := Lib.hid M1; have HA1 := Lib.hid hA1; clear E1 M1 hA1)
    | (go_at_call 82; refine (width_int64 _).mono ?_; rintro e w2 ⟨rfl, rfl⟩))
  go_loopw [4, 12] (PutInv w g A all 8) (fun _ i _ => 8 - (intOf i).toNat)
  case atStart => exact ⟨0, U, A1, bs, Nat.zero_le _, rfl, by first | rfl | rw [HU.out], HV.out, HA1.out, HE.out, one_enc HM.out, HA.out.symm⟩
  case round =>
    obtain ⟨j, u, A2, bs2, hj, rfl, rfl, hu, hA2, ⟨c2, hb, hrow⟩, M2, hall⟩ := hrel
    have c0 := hb.cell 0
    have c1 := hb.cell 1
    have f0 := hb.free 0
    simp at c0 c1
    have hlen : bs2.length ≤ 140737480000010 := by have := HAL.out; rw [← hall] at this; simp at this; omega
    have HLL := Lib.hid hlen
    have HRW := Lib.hid hrow
    have HM2 := Lib.hid M2
    have HA2 := Lib.hid hA2
    have HALL := Lib.hid hall
    clear hlen hrow M2 hA2 hall
    by_cases hlt : j < 8
    · have hz := low_8 u
      have HZ := Lib.hid hz
      go_wp2_with (at_builtin; refine wpList_enc1 rfl (.tmp 18) (.tmp 21) rfl wr A2 c2 _ bs2 rfl rfl HRW.out (UInt8.ofNat u) _ HZ.out rfl (by have := HLL.out; omega) ?_; intro A3 c3 w3 hA3 hR3 hM3; obtain ⟨hb3, hadd⟩ := enc_store hb HRW.out hA3 hR3 hM3; have d0 := hb3.cell 0; have d1 := hb3.cell 1; have e0 := hb3.free 0; simp at d0 d1; have HADD := Lib.hid hadd; clear hadd hA3 hR3 hM3)
      obtain ⟨A4, nA, E4, M4⟩ := HADD.out (bs2.length + 1) (by simp)
      refine ⟨⟨j + 1, u / 256, A4, bs2 ++ [UInt8.ofNat u], hlt, by go_num, rfl, by omega, HA2.out.trans nA HM2.out.size, E4, enc_trans HA2.out HM2.out M4, ?_⟩, ?_⟩
      · rw [List.append_assoc, ← HALL.out, show 8 - j = (8 - (j + 1)) + 1 by omega]
        simp only [fixBytes]
        rw [show UInt8.ofNat (u % 256) = UInt8.ofNat u by apply UInt8.toNat_inj.1; rw [UInt8.toNat_ofNat', UInt8.toNat_ofNat']; omega]
        rfl
      · simp [intOf]; omega
    · obtain rfl : j = 8 := by omega
      go_wp2_with fail
      go_end0
      have he := HALL.out
      simp only [Nat.sub_self, fixBytes, List.append_nil] at he
      subst he
      exact ⟨rfl, A2, HA2.out, ⟨c2, hb, HRW.out⟩, HM2.out⟩

set_option maxRecDepth 100000 in
set_option maxHeartbeats 2000000 in
theorem put_uint64 {w : World} {g : Nat} {A : Option Addr} {bs : List UInt8} (V : Int) (U : Nat) (hU : V = (U : Int)) (hU64 : U < 18446744073709551616) (h : EncR w g A bs) (hl : bs.length ≤ 140737480000000) :
    Calls Try.prog 45 #[.pointer (some ⟨g, 0, none⟩), .int .u64 V] w fun e w' => e = .returned (.tuple #[]) ∧ Added w g A (bs ++ fixBytes 8 U) w' := by
  have H := Lib.hid h
  have HL := Lib.hid hl
  have HV := Lib.hid hU64
  obtain ⟨all, hall⟩ : ∃ all, all = bs ++ fixBytes 8 U := ⟨_, rfl⟩
  rw [← hall]
  have HA := Lib.hid hall
  have HAL := Lib.hid (show all.length ≤ 140737480000010 by rw [hall]; have := fixBytes_length 8 U; simp; omega)
  subst hU
  clear h hl hall hU64
  go_enter Try.func45, Try.ntmps45
  go_wp2_with (first
    | (go_at_call 75; refine (ours_any H.out (by have := HL.out; omega)).mono ?_; rintro e w1 ⟨rfl, A1, hA1, E1, M1⟩; have HE := Lib.hid E1; have HM := Lib.hid M1; have HA1 := Lib.hid hA1; clear E1 M1 hA1)
    | (go_at_call 83; refine (width_uint64 _).mono ?_; rintro e w2 ⟨rfl, rfl⟩))
  go_loopw [4, 11] (PutInv w g A all 8) (fun _ i _ => 8 - (intOf i).toNat)
  case atStart => exact ⟨0, U, A1, bs, Nat.zero_le _, rfl, by first | rfl | rw [HU.out], HV.out, HA1.out, HE.out, one_enc HM.out, HA.out.symm⟩
  case round =>
    obtain ⟨j, u, A2, bs2, hj, rfl, rfl, hu, hA2, ⟨c2, hb, hrow⟩, M2, hall⟩ := hrel
    have c0 := hb.cell 0
    have c1 := hb.cell 1
    have f0 := hb.free 0
    simp at c0 c1
    have hlen : bs2.length ≤ 140737480000010 := by have := HAL.out; rw [← hall] at this; simp at this; omega
    have HLL := Lib.hid hlen
    have HRW := Lib.hid hrow
    have HM2 := Lib.hid M2
    have HA2 := Lib.hid hA2
    have HALL := Lib.hid hall
    clear hlen hrow M2 hA2 hall
    by_cases hlt : j < 8
    · have hz := low_8 u
      have HZ := Lib.hid hz
      go_wp2_with (at_builtin; refine wpList_enc1 rfl (.tmp 17) (.tmp 20) rfl wr A2 c2 _ bs2 rfl rfl HRW.out (UInt8.ofNat u) _ HZ.out rfl (by have := HLL.out; omega) ?_; intro A3 c3 w3 hA3 hR3 hM3; obtain ⟨hb3, hadd⟩ := enc_store hb HRW.out hA3 hR3 hM3; have d0 := hb3.cell 0; have d1 := hb3.cell 1; have e0 := hb3.free 0; simp at d0 d1; have HADD := Lib.hid hadd; clear hadd hA3 hR3 hM3)
      obtain ⟨A4, nA, E4, M4⟩ := HADD.out (bs2.length + 1) (by simp)
      refine ⟨⟨j + 1, u / 256, A4, bs2 ++ [UInt8.ofNat u], hlt, by go_num, rfl, by omega, HA2.out.trans nA HM2.out.size, E4, enc_trans HA2.out HM2.out M4, ?_⟩, ?_⟩
      · rw [List.append_assoc, ← HALL.out, show 8 - j = (8 - (j + 1)) + 1 by omega]
        simp only [fixBytes]
        rw [show UInt8.ofNat (u % 256) = UInt8.ofNat u by apply UInt8.toNat_inj.1; rw [UInt8.toNat_ofNat', UInt8.toNat_ofNat']; omega]
        rfl
      · simp [intOf]; omega
    · obtain rfl : j = 8 := by omega
      go_wp2_with fail
      go_end0
      have he := HALL.out
      simp only [Nat.sub_self, fixBytes, List.append_nil] at he
      subst he
      exact ⟨rfl, A2, HA2.out, ⟨c2, hb, HRW.out⟩, HM2.out⟩

end Go.Proofs.Ytpfkcejndjnbhaa.EN
