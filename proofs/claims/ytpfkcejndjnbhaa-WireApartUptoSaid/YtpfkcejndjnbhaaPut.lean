/- The law's put, for every kind (printed by wireputl.py). -/
import Derived.Test.YtpfkcejndjnbhaaPutA
namespace Go.Proofs.Ytpfkcejndjnbhaa.EN
open Go.RowKit Mem WM
open Go.Proofs.Ytpfkcejndjnbhaa.WD (RdT u8_info rowS wpList_put1 own_mod key_size)
open Go.Proofs.Ytpfkcejndjnbhaa.OP (atA cell_lt)
set_option linter.unusedVariables false
set_option linter.unusedSimpArgs false

theorem AddedR.from {w w1 : World} {g : Nat} {A : Option Addr} {bs' : List UInt8} {w' : World} (M : Mod no w w1) (h : AddedR w1 g A bs' w') : AddedR w g A bs' w' := by
  obtain ⟨A', h1, h2, h3⟩ := h
  exact ⟨A', (nextA.refl w A).trans h1 M.size, h2, (M.mono (S' := encS g A) (fun _ _ c => False.elim c)).and_then h3⟩

theorem conv_i8 (N : Nat) : ∃ U : Nat, IntKind.u64.wrap (IntKind.i8.wrap (N : Int)) = (U : Int) ∧ U < 18446744073709551616 ∧ fixBytes 1 U = fixBytes 1 N := by
  refine ⟨(IntKind.u64.wrap (IntKind.i8.wrap (N : Int))).toNat, ?_, ?_, fixBytes_mod _ _ _ ?_⟩
  all_goals
    simp only [IntKind.wrap, IntKind.bits, IntKind.signed]
    simp
    first
      | omega
      | (split <;> omega)

theorem conv_u8 (N : Nat) : ∃ U : Nat, IntKind.u64.wrap (IntKind.u8.wrap (N : Int)) = (U : Int) ∧ U < 18446744073709551616 ∧ fixBytes 1 U = fixBytes 1 N := by
  refine ⟨(IntKind.u64.wrap (IntKind.u8.wrap (N : Int))).toNat, ?_, ?_, fixBytes_mod _ _ _ ?_⟩
  all_goals
    simp only [IntKind.wrap, IntKind.bits, IntKind.signed]
    simp
    first
      | omega
      | (split <;> omega)

theorem conv_i16 (N : Nat) : ∃ U : Nat, IntKind.u64.wrap (IntKind.i16.wrap (N : Int)) = (U : Int) ∧ U < 18446744073709551616 ∧ fixBytes 2 U = fixBytes 2 N := by
  refine ⟨(IntKind.u64.wrap (IntKind.i16.wrap (N : Int))).toNat, ?_, ?_, fixBytes_mod _ _ _ ?_⟩
  all_goals
    simp only [IntKind.wrap, IntKind.bits, IntKind.signed]
    simp
    first
      | omega
      | (split <;> omega)

theorem conv_u16 (N : Nat) : ∃ U : Nat, IntKind.u64.wrap (IntKind.u16.wrap (N : Int)) = (U : Int) ∧ U < 18446744073709551616 ∧ fixBytes 2 U = fixBytes 2 N := by
  refine ⟨(IntKind.u64.wrap (IntKind.u16.wrap (N : Int))).toNat, ?_, ?_, fixBytes_mod _ _ _ ?_⟩
  all_goals
    simp only [IntKind.wrap, IntKind.bits, IntKind.signed]
    simp
    first
      | omega
      | (split <;> omega)

theorem conv_i32 (N : Nat) : ∃ U : Nat, IntKind.u64.wrap (IntKind.i32.wrap (N : Int)) = (U : Int) ∧ U < 18446744073709551616 ∧ fixBytes 4 U = fixBytes 4 N := by
  refine ⟨(IntKind.u64.wrap (IntKind.i32.wrap (N : Int))).toNat, ?_, ?_, fixBytes_mod _ _ _ ?_⟩
  all_goals
    simp only [IntKind.wrap, IntKind.bits, IntKind.signed]
    simp
    first
      | omega
      | (split <;> omega)

theorem conv_u32 (N : Nat) : ∃ U : Nat, IntKind.u64.wrap (IntKind.u32.wrap (N : Int)) = (U : Int) ∧ U < 18446744073709551616 ∧ fixBytes 4 U = fixBytes 4 N := by
  refine ⟨(IntKind.u64.wrap (IntKind.u32.wrap (N : Int))).toNat, ?_, ?_, fixBytes_mod _ _ _ ?_⟩
  all_goals
    simp only [IntKind.wrap, IntKind.bits, IntKind.signed]
    simp
    first
      | omega
      | (split <;> omega)

theorem conv_i64 (N : Nat) : ∃ U : Nat, IntKind.u64.wrap (IntKind.i64.wrap (N : Int)) = (U : Int) ∧ U < 18446744073709551616 ∧ fixBytes 8 U = fixBytes 8 N := by
  refine ⟨(IntKind.u64.wrap (IntKind.i64.wrap (N : Int))).toNat, ?_, ?_, fixBytes_mod _ _ _ ?_⟩
  all_goals
    simp only [IntKind.wrap, IntKind.bits, IntKind.signed]
    simp
    first
      | omega
      | (split <;> omega)

set_option maxRecDepth 100000 in
set_option maxHeartbeats 1000000 in
theorem put_var {w : World} {g : Nat} {A : Option Addr} {bs : List UInt8} (N : Nat) (S : List UInt8) (A2 : Option Addr) (n cp : Nat) (K : List UInt8) (h : EncR w g A bs) (hl : bs.length ≤ 140737400000000) (hN : N < 18446744073709551616):
    Calls Try.prog 10 #[.pointer (some ⟨g, 0, none⟩), addV 1 N S A2 n cp K] w fun e w' => e = .returned (.tuple #[]) ∧ Added w g A (bs ++ varBytes N) w' := by
  have HL := Lib.hid hl
  have HN := Lib.hid hN
  have H := fun o => Lib.hid (h.mod_no ((Mod.refl no w).alloc o))
  obtain ⟨cs, hgb⟩ := h.blk
  have hg := hgb.lt
  obtain ⟨c0, c1, c2, c3, c4⟩ := add_cells (addL_blk 1 N S A2 n cp K w)
  generalize hL : addL 1 N S A2 n cp K = L at *
  clear h hgb hl hN c4
  unfold addV
  rw [hL]
  clear hL
  go_enter Try.func10, Try.ntmps10
  go_wp2_with fail
  refine (var_add N HN.out (H _).out (by have := HL.out; omega)).mono ?_
  rintro e w1 ⟨rfl, hadd⟩
  have HADD := Lib.hid hadd
  clear hadd
  go_wp2_with fail
  go_end0
  exact ⟨rfl, Added.from ((Mod.refl no w).alloc _) (HADD.out)⟩

set_option maxRecDepth 100000 in
set_option maxHeartbeats 1000000 in
theorem put_text {w : World} {g : Nat} {A : Option Addr} {bs : List UInt8} (N : Nat) (S : List UInt8) (A2 : Option Addr) (n cp : Nat) (K : List UInt8) (h : EncR w g A bs) (hl : bs.length + S.length ≤ 140737400000000):
    Calls Try.prog 10 #[.pointer (some ⟨g, 0, none⟩), addV 2 N S A2 n cp K] w fun e w' => e = .returned (.tuple #[]) ∧ Added w g A (bs ++ (varBytes S.length ++ S)) w' := by
  have HL := Lib.hid hl
  have H := fun o => Lib.hid (h.mod_no ((Mod.refl no w).alloc o))
  obtain ⟨cs, hgb⟩ := h.blk
  have hg := hgb.lt
  obtain ⟨c0, c1, c2, c3, c4⟩ := add_cells (addL_blk 2 N S A2 n cp K w)
  generalize hL : addL 2 N S A2 n cp K = L at *
  clear h hgb hl c4
  unfold addV
  rw [hL]
  clear hL
  go_enter Try.func10, Try.ntmps10
  go_wp2_with fail
  refine (text_add S (H _).out (by have := HL.out; omega)).mono ?_
  rintro e w1 ⟨rfl, hadd⟩
  have HADD := Lib.hid hadd
  clear hadd
  go_wp2_with fail
  go_end0
  exact ⟨rfl, Added.from ((Mod.refl no w).alloc _) (HADD.out)⟩

set_option maxRecDepth 100000 in
set_option maxHeartbeats 1000000 in
theorem put_raw {w : World} {g : Nat} {A : Option Addr} {bs : List UInt8} (N : Nat) (S : List UInt8) (A2 : Option Addr) (n cp : Nat) (K : List UInt8) (h : EncR w g A bs) (B : List UInt8) (hn : n = B.length) (hl : bs.length + B.length ≤ 140737400000000) (hr : Rds w 1 A2 B.length (bvs B)) (hs : 0 < B.length → ∀ ad, A2 = some ad → ad.block ≠ g ∧ ¬ atA A ad.block) :
    Calls Try.prog 10 #[.pointer (some ⟨g, 0, none⟩), addV 3 N S A2 n cp K] w fun e w' => e = .returned (.tuple #[]) ∧ Added w g A (bs ++ B) w' := by
  have HL := Lib.hid hl
  have HR := fun o => Lib.hid (OP.rds_mod hr ((Mod.refl no w).alloc o))
  have HS := Lib.hid hs
  have HN := Lib.hid hn
  have H := fun o => Lib.hid (h.mod_no ((Mod.refl no w).alloc o))
  obtain ⟨cs, hgb⟩ := h.blk
  have hg := hgb.lt
  obtain ⟨c0, c1, c2, c3, c4⟩ := add_cells (addL_blk 3 N S A2 n cp K w)
  generalize hL : addL 3 N S A2 n cp K = L at *
  clear h hgb hl hr hs hn c4
  unfold addV
  rw [hL]
  clear hL
  go_enter Try.func10, Try.ntmps10
  go_wp2_with fail
  refine (raw_add B HN.out (H _).out (by have := HL.out; omega) (HR _).out (fun hp ad e => (HS.out hp ad e).1)).mono ?_
  rintro e w1 ⟨rfl, hadd⟩
  have HADD := Lib.hid hadd
  clear hadd
  go_wp2_with fail
  go_end0
  exact ⟨rfl, Added.from ((Mod.refl no w).alloc _) (HADD.out)⟩

set_option maxRecDepth 100000 in
set_option maxHeartbeats 1000000 in
theorem put_key {w : World} {g : Nat} {A : Option Addr} {bs : List UInt8} (N : Nat) (S : List UInt8) (A2 : Option Addr) (n cp : Nat) (K : List UInt8) (h : EncR w g A bs) (hl : bs.length ≤ 140737400000000) (hK : K.length = 32) :
    Calls Try.prog 10 #[.pointer (some ⟨g, 0, none⟩), addV 4 N S A2 n cp K] w fun e w' => e = .returned (.tuple #[]) ∧ Added w g A (bs ++ K) w' := by
  have HL := Lib.hid hl
  have HK := Lib.hid hK
  have HKS := Lib.hid (show (Try.prog.info? 30).map (·.size) = some (bvs K).length by rw [bvs_length, hK]; exact key_size)
  have H := fun o => Lib.hid (h.mod_no ((Mod.refl no w).alloc o))
  obtain ⟨cs, hgb⟩ := h.blk
  have hg := hgb.lt
  obtain ⟨c0, c1, c2, c3, c4⟩ := add_cells (addL_blk 4 N S A2 n cp K w)
  generalize hL : addL 4 N S A2 n cp K = L at *
  clear h hgb hl hK
  unfold addV
  rw [hL]
  clear hL
  go_enter Try.func10, Try.ntmps10
  have HR4 := Lib.hid c4
  clear c4
  go_wp2_with (refine wpList_load_mid rfl 30 (.tmp 27) rfl w.heap.size 4 rfl (bvs K) _ HR4.out Try.underlying30 rfl HKS.out ?_)
  refine (key_add K HK.out (H _).out (by have := HL.out; omega)).mono ?_
  rintro e w1 ⟨rfl, hadd⟩
  have HADD := Lib.hid hadd
  clear hadd
  go_wp2_with fail
  go_end0
  exact ⟨rfl, Added.from ((Mod.refl no w).alloc _) (HADD.out)⟩

set_option maxRecDepth 100000 in
set_option maxHeartbeats 1000000 in
theorem put_fix5 {w : World} {g : Nat} {A : Option Addr} {bs : List UInt8} (N : Nat) (S : List UInt8) (A2 : Option Addr) (n cp : Nat) (K : List UInt8) (h : EncR w g A bs) (hl : bs.length ≤ 140737400000000) :
    Calls Try.prog 10 #[.pointer (some ⟨g, 0, none⟩), addV 5 N S A2 n cp K] w fun e w' => e = .returned (.tuple #[]) ∧ Added w g A (bs ++ fixBytes 1 N) w' := by
  have HL := Lib.hid hl
  obtain ⟨U, hU, hU64, hUe⟩ := conv_i8 N
  obtain ⟨V, hV⟩ : ∃ V, V = IntKind.i8.wrap (N : Int) := ⟨_, rfl⟩
  have hcv : ∀ W : World, (convert 28 85 (.int .u64 (N : Int))).run Try.prog W = .ok (.int .i8 V) W := fun W => by
    have := run_convert_int (P := Try.prog) (w := W) 28 85 .u64 (N : Int) (by rw [Try.underlying28]; rfl) Try.underlying85
    rw [this, show Try.prog.intKind 85 = .i8 from by kernel_rfl, hV]
  rw [← hV] at hU
  have HU := Lib.hid (And.intro hU (And.intro hU64 hUe))
  clear hV hU hU64 hUe
  have H := fun o => Lib.hid (h.mod_no ((Mod.refl no w).alloc o))
  obtain ⟨cs, hgb⟩ := h.blk
  have hg := hgb.lt
  obtain ⟨c0, c1, c2, c3, c4⟩ := add_cells (addL_blk 5 N S A2 n cp K w)
  generalize hL : addL 5 N S A2 n cp K = L at *
  clear h hgb hl c4
  unfold addV
  rw [hL]
  clear hL
  go_enter Try.func10, Try.ntmps10
  go_wp2_with fail
  refine (put_int8 V U HU.out.1 HU.out.2.1 (H _).out (by have := HL.out; omega)).mono ?_
  rintro e w1 ⟨rfl, hadd⟩
  have HADD := Lib.hid hadd
  clear hadd
  go_wp2_with fail
  go_end0
  exact ⟨rfl, Added.from ((Mod.refl no w).alloc _) (by rw [← HU.out.2.2]; exact HADD.out)⟩

set_option maxRecDepth 100000 in
set_option maxHeartbeats 1000000 in
theorem put_fix6 {w : World} {g : Nat} {A : Option Addr} {bs : List UInt8} (N : Nat) (S : List UInt8) (A2 : Option Addr) (n cp : Nat) (K : List UInt8) (h : EncR w g A bs) (hl : bs.length ≤ 140737400000000) :
    Calls Try.prog 10 #[.pointer (some ⟨g, 0, none⟩), addV 6 N S A2 n cp K] w fun e w' => e = .returned (.tuple #[]) ∧ Added w g A (bs ++ fixBytes 1 N) w' := by
  have HL := Lib.hid hl
  obtain ⟨U, hU, hU64, hUe⟩ := conv_u8 N
  obtain ⟨V, hV⟩ : ∃ V, V = IntKind.u8.wrap (N : Int) := ⟨_, rfl⟩
  have hcv : ∀ W : World, (convert 28 5 (.int .u64 (N : Int))).run Try.prog W = .ok (.int .u8 V) W := fun W => by
    have := run_convert_int (P := Try.prog) (w := W) 28 5 .u64 (N : Int) (by rw [Try.underlying28]; rfl) Try.underlying5
    rw [this, show Try.prog.intKind 5 = .u8 from by kernel_rfl, hV]
  rw [← hV] at hU
  have HU := Lib.hid (And.intro hU (And.intro hU64 hUe))
  clear hV hU hU64 hUe
  have H := fun o => Lib.hid (h.mod_no ((Mod.refl no w).alloc o))
  obtain ⟨cs, hgb⟩ := h.blk
  have hg := hgb.lt
  obtain ⟨c0, c1, c2, c3, c4⟩ := add_cells (addL_blk 6 N S A2 n cp K w)
  generalize hL : addL 6 N S A2 n cp K = L at *
  clear h hgb hl c4
  unfold addV
  rw [hL]
  clear hL
  go_enter Try.func10, Try.ntmps10
  go_wp2_with fail
  refine (put_uint8 V U HU.out.1 HU.out.2.1 (H _).out (by have := HL.out; omega)).mono ?_
  rintro e w1 ⟨rfl, hadd⟩
  have HADD := Lib.hid hadd
  clear hadd
  go_wp2_with fail
  go_end0
  exact ⟨rfl, Added.from ((Mod.refl no w).alloc _) (by rw [← HU.out.2.2]; exact HADD.out)⟩

set_option maxRecDepth 100000 in
set_option maxHeartbeats 1000000 in
theorem put_fix7 {w : World} {g : Nat} {A : Option Addr} {bs : List UInt8} (N : Nat) (S : List UInt8) (A2 : Option Addr) (n cp : Nat) (K : List UInt8) (h : EncR w g A bs) (hl : bs.length ≤ 140737400000000) :
    Calls Try.prog 10 #[.pointer (some ⟨g, 0, none⟩), addV 7 N S A2 n cp K] w fun e w' => e = .returned (.tuple #[]) ∧ Added w g A (bs ++ fixBytes 2 N) w' := by
  have HL := Lib.hid hl
  obtain ⟨U, hU, hU64, hUe⟩ := conv_i16 N
  obtain ⟨V, hV⟩ : ∃ V, V = IntKind.i16.wrap (N : Int) := ⟨_, rfl⟩
  have hcv : ∀ W : World, (convert 28 88 (.int .u64 (N : Int))).run Try.prog W = .ok (.int .i16 V) W := fun W => by
    have := run_convert_int (P := Try.prog) (w := W) 28 88 .u64 (N : Int) (by rw [Try.underlying28]; rfl) Try.underlying88
    rw [this, show Try.prog.intKind 88 = .i16 from by kernel_rfl, hV]
  rw [← hV] at hU
  have HU := Lib.hid (And.intro hU (And.intro hU64 hUe))
  clear hV hU hU64 hUe
  have H := fun o => Lib.hid (h.mod_no ((Mod.refl no w).alloc o))
  obtain ⟨cs, hgb⟩ := h.blk
  have hg := hgb.lt
  obtain ⟨c0, c1, c2, c3, c4⟩ := add_cells (addL_blk 7 N S A2 n cp K w)
  generalize hL : addL 7 N S A2 n cp K = L at *
  clear h hgb hl c4
  unfold addV
  rw [hL]
  clear hL
  go_enter Try.func10, Try.ntmps10
  go_wp2_with fail
  refine (put_int16 V U HU.out.1 HU.out.2.1 (H _).out (by have := HL.out; omega)).mono ?_
  rintro e w1 ⟨rfl, hadd⟩
  have HADD := Lib.hid hadd
  clear hadd
  go_wp2_with fail
  go_end0
  exact ⟨rfl, Added.from ((Mod.refl no w).alloc _) (by rw [← HU.out.2.2]; exact HADD.out)⟩

set_option maxRecDepth 100000 in
set_option maxHeartbeats 1000000 in
theorem put_fix8 {w : World} {g : Nat} {A : Option Addr} {bs : List UInt8} (N : Nat) (S : List UInt8) (A2 : Option Addr) (n cp : Nat) (K : List UInt8) (h : EncR w g A bs) (hl : bs.length ≤ 140737400000000) :
    Calls Try.prog 10 #[.pointer (some ⟨g, 0, none⟩), addV 8 N S A2 n cp K] w fun e w' => e = .returned (.tuple #[]) ∧ Added w g A (bs ++ fixBytes 2 N) w' := by
  have HL := Lib.hid hl
  obtain ⟨U, hU, hU64, hUe⟩ := conv_u16 N
  obtain ⟨V, hV⟩ : ∃ V, V = IntKind.u16.wrap (N : Int) := ⟨_, rfl⟩
  have hcv : ∀ W : World, (convert 28 90 (.int .u64 (N : Int))).run Try.prog W = .ok (.int .u16 V) W := fun W => by
    have := run_convert_int (P := Try.prog) (w := W) 28 90 .u64 (N : Int) (by rw [Try.underlying28]; rfl) Try.underlying90
    rw [this, show Try.prog.intKind 90 = .u16 from by kernel_rfl, hV]
  rw [← hV] at hU
  have HU := Lib.hid (And.intro hU (And.intro hU64 hUe))
  clear hV hU hU64 hUe
  have H := fun o => Lib.hid (h.mod_no ((Mod.refl no w).alloc o))
  obtain ⟨cs, hgb⟩ := h.blk
  have hg := hgb.lt
  obtain ⟨c0, c1, c2, c3, c4⟩ := add_cells (addL_blk 8 N S A2 n cp K w)
  generalize hL : addL 8 N S A2 n cp K = L at *
  clear h hgb hl c4
  unfold addV
  rw [hL]
  clear hL
  go_enter Try.func10, Try.ntmps10
  go_wp2_with fail
  refine (put_uint16 V U HU.out.1 HU.out.2.1 (H _).out (by have := HL.out; omega)).mono ?_
  rintro e w1 ⟨rfl, hadd⟩
  have HADD := Lib.hid hadd
  clear hadd
  go_wp2_with fail
  go_end0
  exact ⟨rfl, Added.from ((Mod.refl no w).alloc _) (by rw [← HU.out.2.2]; exact HADD.out)⟩

set_option maxRecDepth 100000 in
set_option maxHeartbeats 1000000 in
theorem put_fix9 {w : World} {g : Nat} {A : Option Addr} {bs : List UInt8} (N : Nat) (S : List UInt8) (A2 : Option Addr) (n cp : Nat) (K : List UInt8) (h : EncR w g A bs) (hl : bs.length ≤ 140737400000000) :
    Calls Try.prog 10 #[.pointer (some ⟨g, 0, none⟩), addV 9 N S A2 n cp K] w fun e w' => e = .returned (.tuple #[]) ∧ Added w g A (bs ++ fixBytes 4 N) w' := by
  have HL := Lib.hid hl
  obtain ⟨U, hU, hU64, hUe⟩ := conv_i32 N
  obtain ⟨V, hV⟩ : ∃ V, V = IntKind.i32.wrap (N : Int) := ⟨_, rfl⟩
  have hcv : ∀ W : World, (convert 28 21 (.int .u64 (N : Int))).run Try.prog W = .ok (.int .i32 V) W := fun W => by
    have := run_convert_int (P := Try.prog) (w := W) 28 21 .u64 (N : Int) (by rw [Try.underlying28]; rfl) Try.underlying21
    rw [this, show Try.prog.intKind 21 = .i32 from by kernel_rfl, hV]
  rw [← hV] at hU
  have HU := Lib.hid (And.intro hU (And.intro hU64 hUe))
  clear hV hU hU64 hUe
  have H := fun o => Lib.hid (h.mod_no ((Mod.refl no w).alloc o))
  obtain ⟨cs, hgb⟩ := h.blk
  have hg := hgb.lt
  obtain ⟨c0, c1, c2, c3, c4⟩ := add_cells (addL_blk 9 N S A2 n cp K w)
  generalize hL : addL 9 N S A2 n cp K = L at *
  clear h hgb hl c4
  unfold addV
  rw [hL]
  clear hL
  go_enter Try.func10, Try.ntmps10
  go_wp2_with fail
  refine (put_int32 V U HU.out.1 HU.out.2.1 (H _).out (by have := HL.out; omega)).mono ?_
  rintro e w1 ⟨rfl, hadd⟩
  have HADD := Lib.hid hadd
  clear hadd
  go_wp2_with fail
  go_end0
  exact ⟨rfl, Added.from ((Mod.refl no w).alloc _) (by rw [← HU.out.2.2]; exact HADD.out)⟩

set_option maxRecDepth 100000 in
set_option maxHeartbeats 1000000 in
theorem put_fix10 {w : World} {g : Nat} {A : Option Addr} {bs : List UInt8} (N : Nat) (S : List UInt8) (A2 : Option Addr) (n cp : Nat) (K : List UInt8) (h : EncR w g A bs) (hl : bs.length ≤ 140737400000000) :
    Calls Try.prog 10 #[.pointer (some ⟨g, 0, none⟩), addV 10 N S A2 n cp K] w fun e w' => e = .returned (.tuple #[]) ∧ Added w g A (bs ++ fixBytes 4 N) w' := by
  have HL := Lib.hid hl
  obtain ⟨U, hU, hU64, hUe⟩ := conv_u32 N
  obtain ⟨V, hV⟩ : ∃ V, V = IntKind.u32.wrap (N : Int) := ⟨_, rfl⟩
  have hcv : ∀ W : World, (convert 28 93 (.int .u64 (N : Int))).run Try.prog W = .ok (.int .u32 V) W := fun W => by
    have := run_convert_int (P := Try.prog) (w := W) 28 93 .u64 (N : Int) (by rw [Try.underlying28]; rfl) Try.underlying93
    rw [this, show Try.prog.intKind 93 = .u32 from by kernel_rfl, hV]
  rw [← hV] at hU
  have HU := Lib.hid (And.intro hU (And.intro hU64 hUe))
  clear hV hU hU64 hUe
  have H := fun o => Lib.hid (h.mod_no ((Mod.refl no w).alloc o))
  obtain ⟨cs, hgb⟩ := h.blk
  have hg := hgb.lt
  obtain ⟨c0, c1, c2, c3, c4⟩ := add_cells (addL_blk 10 N S A2 n cp K w)
  generalize hL : addL 10 N S A2 n cp K = L at *
  clear h hgb hl c4
  unfold addV
  rw [hL]
  clear hL
  go_enter Try.func10, Try.ntmps10
  go_wp2_with fail
  refine (put_uint32 V U HU.out.1 HU.out.2.1 (H _).out (by have := HL.out; omega)).mono ?_
  rintro e w1 ⟨rfl, hadd⟩
  have HADD := Lib.hid hadd
  clear hadd
  go_wp2_with fail
  go_end0
  exact ⟨rfl, Added.from ((Mod.refl no w).alloc _) (by rw [← HU.out.2.2]; exact HADD.out)⟩

set_option maxRecDepth 100000 in
set_option maxHeartbeats 1000000 in
theorem put_fix11 {w : World} {g : Nat} {A : Option Addr} {bs : List UInt8} (N : Nat) (S : List UInt8) (A2 : Option Addr) (n cp : Nat) (K : List UInt8) (h : EncR w g A bs) (hl : bs.length ≤ 140737400000000) :
    Calls Try.prog 10 #[.pointer (some ⟨g, 0, none⟩), addV 11 N S A2 n cp K] w fun e w' => e = .returned (.tuple #[]) ∧ Added w g A (bs ++ fixBytes 8 N) w' := by
  have HL := Lib.hid hl
  obtain ⟨U, hU, hU64, hUe⟩ := conv_i64 N
  obtain ⟨V, hV⟩ : ∃ V, V = IntKind.i64.wrap (N : Int) := ⟨_, rfl⟩
  have hcv : ∀ W : World, (convert 28 2 (.int .u64 (N : Int))).run Try.prog W = .ok (.int .i64 V) W := fun W => by
    have := run_convert_int (P := Try.prog) (w := W) 28 2 .u64 (N : Int) (by rw [Try.underlying28]; rfl) Try.underlying2
    rw [this, show Try.prog.intKind 2 = .i64 from by kernel_rfl, hV]
  rw [← hV] at hU
  have HU := Lib.hid (And.intro hU (And.intro hU64 hUe))
  clear hV hU hU64 hUe
  have H := fun o => Lib.hid (h.mod_no ((Mod.refl no w).alloc o))
  obtain ⟨cs, hgb⟩ := h.blk
  have hg := hgb.lt
  obtain ⟨c0, c1, c2, c3, c4⟩ := add_cells (addL_blk 11 N S A2 n cp K w)
  generalize hL : addL 11 N S A2 n cp K = L at *
  clear h hgb hl c4
  unfold addV
  rw [hL]
  clear hL
  go_enter Try.func10, Try.ntmps10
  go_wp2_with fail
  refine (put_int64 V U HU.out.1 HU.out.2.1 (H _).out (by have := HL.out; omega)).mono ?_
  rintro e w1 ⟨rfl, hadd⟩
  have HADD := Lib.hid hadd
  clear hadd
  go_wp2_with fail
  go_end0
  exact ⟨rfl, Added.from ((Mod.refl no w).alloc _) (by rw [← HU.out.2.2]; exact HADD.out)⟩

set_option maxRecDepth 100000 in
set_option maxHeartbeats 1000000 in
theorem put_fix12 {w : World} {g : Nat} {A : Option Addr} {bs : List UInt8} (N : Nat) (S : List UInt8) (A2 : Option Addr) (n cp : Nat) (K : List UInt8) (h : EncR w g A bs) (hl : bs.length ≤ 140737400000000) (hN : N < 18446744073709551616):
    Calls Try.prog 10 #[.pointer (some ⟨g, 0, none⟩), addV 12 N S A2 n cp K] w fun e w' => e = .returned (.tuple #[]) ∧ Added w g A (bs ++ fixBytes 8 N) w' := by
  have HL := Lib.hid hl
  have HN := Lib.hid hN
  have H := fun o => Lib.hid (h.mod_no ((Mod.refl no w).alloc o))
  obtain ⟨cs, hgb⟩ := h.blk
  have hg := hgb.lt
  obtain ⟨c0, c1, c2, c3, c4⟩ := add_cells (addL_blk 12 N S A2 n cp K w)
  generalize hL : addL 12 N S A2 n cp K = L at *
  clear h hgb hl hN c4
  unfold addV
  rw [hL]
  clear hL
  go_enter Try.func10, Try.ntmps10
  go_wp2_with fail
  refine (put_uint64 (N : Int) N rfl HN.out (H _).out (by have := HL.out; omega)).mono ?_
  rintro e w1 ⟨rfl, hadd⟩
  have HADD := Lib.hid hadd
  clear hadd
  go_wp2_with fail
  go_end0
  exact ⟨rfl, Added.from ((Mod.refl no w).alloc _) (HADD.out)⟩

set_option maxRecDepth 100000 in
set_option maxHeartbeats 1000000 in
theorem put_list {w : World} {g : Nat} {A : Option Addr} {bs : List UInt8} (N : Nat) (S : List UInt8) (A2 : Option Addr) (n cp : Nat) (K : List UInt8) (h : EncR w g A bs) (B : List UInt8) (hn : n = B.length) (hl : bs.length + B.length ≤ 140737400000000) (hr : Rds w 1 A2 B.length (bvs B)) (hs : 0 < B.length → ∀ ad, A2 = some ad → ad.block ≠ g ∧ ¬ atA A ad.block) :
    Calls Try.prog 10 #[.pointer (some ⟨g, 0, none⟩), addV 13 N S A2 n cp K] w fun e w' => e = .returned (.tuple #[]) ∧ Added w g A (bs ++ (varBytes B.length ++ B)) w' := by
  have HL := Lib.hid hl
  have HR := fun o => Lib.hid (OP.rds_mod hr ((Mod.refl no w).alloc o))
  have HS := Lib.hid hs
  have HN := Lib.hid hn
  have HBK := Lib.hid (addL_blk 13 N S A2 n cp K w)
  have HAT := Lib.hid h.row
  have e1 : IntKind.u64.wrap (n : Int) = (n : Int) := IntWalk.u64_in _ (by omega)
  have H := fun o => Lib.hid (h.mod_no ((Mod.refl no w).alloc o))
  obtain ⟨cs, hgb⟩ := h.blk
  have hg := hgb.lt
  obtain ⟨c0, c1, c2, c3, c4⟩ := add_cells (addL_blk 13 N S A2 n cp K w)
  rw [show addL 13 N S A2 n cp K = addL 13 N S A2 n cp K from rfl] at HBK
  generalize hL : addL 13 N S A2 n cp K = L at *
  clear h hgb hl hr hs hn c4
  unfold addV
  rw [hL]
  clear hL
  go_enter Try.func10, Try.ntmps10
  go_wp2_with fail
  refine (var_add n (by have := HL.out; have := HN.out; omega) (H _).out (by have := HL.out; omega)).mono ?_
  rintro e w1 ⟨rfl, A1, nA, E1, M1⟩
  have hq : ¬ encS g A w.heap.size := fun c => by
    rcases c with c | c
    · omega
    · obtain ⟨cur, hb⟩ := HAT.out _ c; exact Nat.lt_irrefl _ hb.lt
  have d3 := (M1.cell (p := ⟨w.heap.size, 3, none⟩) (by simp) hq).trans c3
  have HM := Lib.hid M1
  have HE := Lib.hid E1
  have HA := Lib.hid nA
  clear M1 E1 nA hq
  go_wp2_with fail
  refine (raw_add B HN.out (.inl HE.out) (by have := HL.out; have := varBytes_10 (v := n) (by have := HN.out; omega); simp; omega) (rds_mod (HR _).out HM.out (fun hp ad e c => ?_)) (fun hp ad e => (HS.out hp ad e).1)).mono ?_
  · rcases c with c | c
    · exact (HS.out hp ad e).1 c
    · exact (HS.out hp ad e).2 c
  rintro e w1 ⟨rfl, hadd⟩
  have HADD := Lib.hid hadd
  clear hadd
  go_wp2_with fail
  go_end0
  exact ⟨rfl, Added.from ((Mod.refl no w).alloc _) (by rw [← HN.out, ← List.append_assoc]; exact Added.then_ HA.out HM.out HADD.out)⟩

theorem left_ {w : World} {P Q : World → Prop} {f : Nat} {args : Array Value} {v : Ending} (h : Calls Try.prog f args w fun e w' => e = v ∧ P w') : Calls Try.prog f args w fun e w' => e = v ∧ (P w' ∨ Q w') :=
  h.mono fun e w' ⟨h1, h2⟩ => ⟨h1, .inl h2⟩

set_option maxRecDepth 100000 in
set_option maxHeartbeats 1000000 in
theorem put_none {w : World} {g : Nat} {A : Option Addr} {bs : List UInt8} (N : Nat) (S : List UInt8) (A2 : Option Addr) (n cp : Nat) (K : List UInt8) (h : EncR w g A bs) (kind : Int) (h1 : kind ≠ 1) (h2 : kind ≠ 2) (h3 : kind ≠ 3) (h4 : kind ≠ 4) (h5 : kind ≠ 5) (h6 : kind ≠ 6) (h7 : kind ≠ 7) (h8 : kind ≠ 8) (h9 : kind ≠ 9) (h10 : kind ≠ 10) (h11 : kind ≠ 11) (h12 : kind ≠ 12) (h13 : kind ≠ 13) :
    Calls Try.prog 10 #[.pointer (some ⟨g, 0, none⟩), addV kind N S A2 n cp K] w fun e w' => e = .returned (.tuple #[]) ∧ Mod no w w' := by
  have H := fun o => Lib.hid (h.mod_no ((Mod.refl no w).alloc o))
  obtain ⟨cs, hgb⟩ := h.blk
  have hg := hgb.lt
  obtain ⟨c0, c1, c2, c3, c4⟩ := add_cells (addL_blk kind N S A2 n cp K w)
  generalize hL : addL kind N S A2 n cp K = L at *
  clear h hgb c4
  unfold addV
  rw [hL]
  clear hL
  go_enter Try.func10, Try.ntmps10
  go_wp2_with fail
  go_end0
  exact ⟨rfl, (Mod.refl _ _).alloc _⟩

/-- The law's put: it adds, or it does nothing. -/
theorem put_any2 {w : World} {g : Nat} {A : Option Addr} {bs : List UInt8} (kind : Int) (N : Nat) (S : List UInt8) (A2 : Option Addr) (n cp : Nat) (K B : List UInt8) (h : EncR w g A bs) (hN : N < 18446744073709551616) (hK : K.length = 32) (hn : n = B.length)
    (hl : bs.length + S.length + B.length ≤ 140737400000000) (hr : Rds w 1 A2 B.length (bvs B)) (hs : 0 < B.length → ∀ ad, A2 = some ad → ad.block ≠ g ∧ ¬ atA A ad.block) :
    Calls Try.prog 10 #[.pointer (some ⟨g, 0, none⟩), addV kind N S A2 n cp K] w fun e w' => e = .returned (.tuple #[]) ∧ (Added w g A (bs ++ addA kind N S B K) w' ∨ (addA kind N S B K = [] ∧ Mod no w w')) := by
  by_cases h1 : kind = 1
  · subst h1; exact left_ (put_var N S A2 n cp K h (by omega) hN)
  by_cases h2 : kind = 2
  · subst h2; exact left_ (put_text N S A2 n cp K h (by omega))
  by_cases h3 : kind = 3
  · subst h3; exact left_ (put_raw N S A2 n cp K h B hn (by omega) hr hs)
  by_cases h4 : kind = 4
  · subst h4; exact left_ (put_key N S A2 n cp K h (by omega) hK)
  by_cases h13 : kind = 13
  · subst h13; exact left_ (put_list N S A2 n cp K h B hn (by omega) hr hs)
  by_cases h5 : kind = 5
  · subst h5; exact left_ (put_fix5 N S A2 n cp K h (by omega))
  by_cases h6 : kind = 6
  · subst h6; exact left_ (put_fix6 N S A2 n cp K h (by omega))
  by_cases h7 : kind = 7
  · subst h7; exact left_ (put_fix7 N S A2 n cp K h (by omega))
  by_cases h8 : kind = 8
  · subst h8; exact left_ (put_fix8 N S A2 n cp K h (by omega))
  by_cases h9 : kind = 9
  · subst h9; exact left_ (put_fix9 N S A2 n cp K h (by omega))
  by_cases h10 : kind = 10
  · subst h10; exact left_ (put_fix10 N S A2 n cp K h (by omega))
  by_cases h11 : kind = 11
  · subst h11; exact left_ (put_fix11 N S A2 n cp K h (by omega))
  by_cases h12 : kind = 12
  · subst h12; exact left_ (put_fix12 N S A2 n cp K h (by omega) hN)
  have e : addA kind N S B K = [] := by
    have hw : WM.width kind = 0 := by simp [WM.width, *]
    unfold addA
    rw [if_neg h1, if_neg h2, if_neg h3, if_neg h4, if_neg h13, hw]
    rfl
  refine (put_none N S A2 n cp K h kind h1 h2 h3 h4 h5 h6 h7 h8 h9 h10 h11 h12 h13).mono ?_
  rintro e' w' ⟨h1, h2⟩
  exact ⟨h1, .inr ⟨e, h2⟩⟩

/-- The law's put. -/
theorem put_any {w : World} {g : Nat} {A : Option Addr} {bs : List UInt8} (kind : Int) (N : Nat) (S : List UInt8) (A2 : Option Addr) (n cp : Nat) (K B : List UInt8) (h : EncR w g A bs) (hN : N < 18446744073709551616) (hK : K.length = 32) (hn : n = B.length)
    (hl : bs.length + S.length + B.length ≤ 140737400000000) (hr : Rds w 1 A2 B.length (bvs B)) (hs : 0 < B.length → ∀ ad, A2 = some ad → ad.block ≠ g ∧ ¬ atA A ad.block) :
    Calls Try.prog 10 #[.pointer (some ⟨g, 0, none⟩), addV kind N S A2 n cp K] w fun e w' => e = .returned (.tuple #[]) ∧ AddedR w g A (bs ++ addA kind N S B K) w' := by
  refine (put_any2 kind N S A2 n cp K B h hN hK hn hl hr hs).mono ?_
  rintro e w' ⟨h1, h2 | ⟨h2, h3⟩⟩
  · exact ⟨h1, h2.r⟩
  · rw [h2, List.append_nil]
    exact ⟨h1, A, nextA.refl _ _, h.mod_no h3, h3.mono (fun _ _ c => False.elim c)⟩

end Go.Proofs.Ytpfkcejndjnbhaa.EN
