/- The law's take, by the program: the other kinds (printed by wiretk.py). -/
import Derived.Test.YtpfkcejndjnbhaaWireX
namespace Go.Proofs.Ytpfkcejndjnbhaa.WD
open Go.RowKit Mem WM
set_option linter.unusedVariables false
set_option linter.unusedSimpArgs false

theorem raw_len (bs : List UInt8) (s : St) (n : Nat) : (rawA bs s n).2.length ≤ n := by
  cases s with
  | dead a c => simp [rawA]
  | live p =>
    simp only [rawA]
    split
    · simp
    · split
      · rw [List.length_take]; simp; omega
      · simp
theorem fixA_lt (bs : List UInt8) (s : St) (w : Nat) : (fixA bs s w).2 < 256 ^ w := by
  show le (rawA bs s w).2 < _
  exact Nat.lt_of_lt_of_le (WB.le_lt _) (Nat.pow_le_pow_right (by decide) (raw_len bs s w))

theorem raw_len2 (bs : List UInt8) (s : St) (n : Int) : (rawA bs s n).2.length ≤ bs.length := by
  cases s with
  | dead a c => simp [rawA]
  | live p =>
    simp only [rawA]
    split
    · simp
    · split
      · rw [List.length_take, List.length_drop]; omega
      · simp
theorem list_len2 (bs : List UInt8) (s : St) (n : Int) : (listA bs s n).2.length ≤ bs.length := by
  cases s with
  | dead a c => simp [listA]
  | live p =>
    simp only [listA]
    split
    · simp
    · split
      · rw [List.length_take, List.length_drop]; omega
      · simp

theorem sgn_i8 (L : Nat) (h : L < 256 ^ 1) : IntKind.u64.wrap (IntKind.i8.wrap (L : Int)) = ((sgn L 1 : Nat) : Int) := by
  simp [IntKind.wrap, IntKind.bits, IntKind.signed, sgn] at h ⊢
  first
    | (split <;> split <;> omega)
    | (split <;> omega)

theorem sgn_i16 (L : Nat) (h : L < 256 ^ 2) : IntKind.u64.wrap (IntKind.i16.wrap (L : Int)) = ((sgn L 2 : Nat) : Int) := by
  simp [IntKind.wrap, IntKind.bits, IntKind.signed, sgn] at h ⊢
  first
    | (split <;> split <;> omega)
    | (split <;> omega)

theorem sgn_i32 (L : Nat) (h : L < 256 ^ 4) : IntKind.u64.wrap (IntKind.i32.wrap (L : Int)) = ((sgn L 4 : Nat) : Int) := by
  simp [IntKind.wrap, IntKind.bits, IntKind.signed, sgn] at h ⊢
  first
    | (split <;> split <;> omega)
    | (split <;> omega)

theorem sgn_i64 (L : Nat) (h : L < 256 ^ 8) : IntKind.u64.wrap (IntKind.i64.wrap (L : Int)) = ((sgn L 8 : Nat) : Int) := by
  simp [IntKind.wrap, IntKind.bits, IntKind.signed, sgn] at h ⊢
  first
    | (split <;> split <;> omega)
    | (split <;> omega)

theorem uns_u8 (L : Nat) (h : L < 256 ^ 1) : IntKind.u64.wrap (IntKind.u8.wrap (L : Int)) = (L : Int) := by
  simp [IntKind.wrap, IntKind.bits, IntKind.signed] at h ⊢
  omega

theorem uns_u16 (L : Nat) (h : L < 256 ^ 2) : IntKind.u64.wrap (IntKind.u16.wrap (L : Int)) = (L : Int) := by
  simp [IntKind.wrap, IntKind.bits, IntKind.signed] at h ⊢
  omega

theorem uns_u32 (L : Nat) (h : L < 256 ^ 4) : IntKind.u64.wrap (IntKind.u32.wrap (L : Int)) = (L : Int) := by
  simp [IntKind.wrap, IntKind.bits, IntKind.signed] at h ⊢
  omega

theorem uns_u64 (L : Nat) (h : L < 256 ^ 8) : IntKind.u64.wrap (IntKind.u64.wrap (L : Int)) = (L : Int) := by
  simp [IntKind.wrap, IntKind.bits, IntKind.signed] at h ⊢
  omega

set_option maxRecDepth 100000 in
set_option maxHeartbeats 1000000 in
theorem take_fix5 {w : World} {g gb : Nat} {bs : List UInt8} {s : St} (most : Nat) (n : Int) (h : DecAt w g gb bs s) (hgb : bs ≠ [] → gb < w.heap.size) :
    Calls Try.prog 25 #[.pointer (some ⟨g, 0, none⟩), takeV 5 most n] w fun e w' =>
      e = .returned (gotV (sgn (fixA bs s 1).2 1) []) ∧ DecAt w' g gb bs (fixA bs s 1).1 ∧ Mod (one g) w w' := by
  obtain ⟨ct, htyp⟩ := h.typ
  have hg := htyp.lt
  have H0 := fun o1 o2 => Lib.hid (h.mod (S := no) (((Mod.refl no w).alloc o1).alloc o2) (fun c => c) (fun _ c => c) (fun _ _ _ c => c))
  clear htyp h
  unfold takeV
  go_enter Try.func25, Try.ntmps25
  go_wp2_with fail
  refine (take_int8 (H0 _ _).out).mono ?_
  have ew := sgn_i8 _ (fixA_lt bs s 1)
  rintro e w1 ⟨rfl, D1, M1⟩
  generalize IntKind.i8.wrap ((fixA bs s 1).2 : Int) = V at *
  have hcv := fun W : World => run_convert_int (P := Try.prog) (w := W) 85 28 .i8 V (by rw [Try.underlying85]; rfl) Try.underlying28
  have hcv2 : ∀ W : World, (convert 85 28 (.int .i8 V)).run Try.prog W = .ok (.int .u64 (((sgn (fixA bs s 1).2 1) : Nat) : Int)) W := fun W => by rw [hcv W, show Try.prog.intKind 28 = .u64 from by kernel_rfl, ew]
  clear hcv ew
  have HD := Lib.hid D1
  have hb4 := got_blk hg M1
  have c0 := hb4.cell 0
  have c1 := hb4.cell 1
  have f0 := hb4.free 0
  have f1 := hb4.free 1
  simp at c0 c1
  clear D1
  go_wp2_with fail
  exact got_done hb4 _ Try.results25 _ rfl rfl _ ⟨rfl, got_dec hg hgb hb4 (by decide) HD.out _ _, got_mod M1 _ _⟩

set_option maxRecDepth 100000 in
set_option maxHeartbeats 1000000 in
theorem take_fix6 {w : World} {g gb : Nat} {bs : List UInt8} {s : St} (most : Nat) (n : Int) (h : DecAt w g gb bs s) (hgb : bs ≠ [] → gb < w.heap.size) :
    Calls Try.prog 25 #[.pointer (some ⟨g, 0, none⟩), takeV 6 most n] w fun e w' =>
      e = .returned (gotV (fixA bs s 1).2 []) ∧ DecAt w' g gb bs (fixA bs s 1).1 ∧ Mod (one g) w w' := by
  obtain ⟨ct, htyp⟩ := h.typ
  have hg := htyp.lt
  have H0 := fun o1 o2 => Lib.hid (h.mod (S := no) (((Mod.refl no w).alloc o1).alloc o2) (fun c => c) (fun _ c => c) (fun _ _ _ c => c))
  clear htyp h
  unfold takeV
  go_enter Try.func25, Try.ntmps25
  go_wp2_with fail
  refine (take_uint8 (H0 _ _).out).mono ?_
  have ew := uns_u8 _ (fixA_lt bs s 1)
  rintro e w1 ⟨rfl, D1, M1⟩
  generalize IntKind.u8.wrap ((fixA bs s 1).2 : Int) = V at *
  have hcv := fun W : World => run_convert_int (P := Try.prog) (w := W) 5 28 .u8 V (by rw [Try.underlying5]; rfl) Try.underlying28
  have hcv2 : ∀ W : World, (convert 5 28 (.int .u8 V)).run Try.prog W = .ok (.int .u64 (((fixA bs s 1).2 : Nat) : Int)) W := fun W => by rw [hcv W, show Try.prog.intKind 28 = .u64 from by kernel_rfl, ew]
  clear hcv ew
  have HD := Lib.hid D1
  have hb4 := got_blk hg M1
  have c0 := hb4.cell 0
  have c1 := hb4.cell 1
  have f0 := hb4.free 0
  have f1 := hb4.free 1
  simp at c0 c1
  clear D1
  go_wp2_with fail
  exact got_done hb4 _ Try.results25 _ rfl rfl _ ⟨rfl, got_dec hg hgb hb4 (by decide) HD.out _ _, got_mod M1 _ _⟩

set_option maxRecDepth 100000 in
set_option maxHeartbeats 1000000 in
theorem take_fix7 {w : World} {g gb : Nat} {bs : List UInt8} {s : St} (most : Nat) (n : Int) (h : DecAt w g gb bs s) (hgb : bs ≠ [] → gb < w.heap.size) :
    Calls Try.prog 25 #[.pointer (some ⟨g, 0, none⟩), takeV 7 most n] w fun e w' =>
      e = .returned (gotV (sgn (fixA bs s 2).2 2) []) ∧ DecAt w' g gb bs (fixA bs s 2).1 ∧ Mod (one g) w w' := by
  obtain ⟨ct, htyp⟩ := h.typ
  have hg := htyp.lt
  have H0 := fun o1 o2 => Lib.hid (h.mod (S := no) (((Mod.refl no w).alloc o1).alloc o2) (fun c => c) (fun _ c => c) (fun _ _ _ c => c))
  clear htyp h
  unfold takeV
  go_enter Try.func25, Try.ntmps25
  go_wp2_with fail
  refine (take_int16 (H0 _ _).out).mono ?_
  have ew := sgn_i16 _ (fixA_lt bs s 2)
  rintro e w1 ⟨rfl, D1, M1⟩
  generalize IntKind.i16.wrap ((fixA bs s 2).2 : Int) = V at *
  have hcv := fun W : World => run_convert_int (P := Try.prog) (w := W) 88 28 .i16 V (by rw [Try.underlying88]; rfl) Try.underlying28
  have hcv2 : ∀ W : World, (convert 88 28 (.int .i16 V)).run Try.prog W = .ok (.int .u64 (((sgn (fixA bs s 2).2 2) : Nat) : Int)) W := fun W => by rw [hcv W, show Try.prog.intKind 28 = .u64 from by kernel_rfl, ew]
  clear hcv ew
  have HD := Lib.hid D1
  have hb4 := got_blk hg M1
  have c0 := hb4.cell 0
  have c1 := hb4.cell 1
  have f0 := hb4.free 0
  have f1 := hb4.free 1
  simp at c0 c1
  clear D1
  go_wp2_with fail
  exact got_done hb4 _ Try.results25 _ rfl rfl _ ⟨rfl, got_dec hg hgb hb4 (by decide) HD.out _ _, got_mod M1 _ _⟩

set_option maxRecDepth 100000 in
set_option maxHeartbeats 1000000 in
theorem take_fix8 {w : World} {g gb : Nat} {bs : List UInt8} {s : St} (most : Nat) (n : Int) (h : DecAt w g gb bs s) (hgb : bs ≠ [] → gb < w.heap.size) :
    Calls Try.prog 25 #[.pointer (some ⟨g, 0, none⟩), takeV 8 most n] w fun e w' =>
      e = .returned (gotV (fixA bs s 2).2 []) ∧ DecAt w' g gb bs (fixA bs s 2).1 ∧ Mod (one g) w w' := by
  obtain ⟨ct, htyp⟩ := h.typ
  have hg := htyp.lt
  have H0 := fun o1 o2 => Lib.hid (h.mod (S := no) (((Mod.refl no w).alloc o1).alloc o2) (fun c => c) (fun _ c => c) (fun _ _ _ c => c))
  clear htyp h
  unfold takeV
  go_enter Try.func25, Try.ntmps25
  go_wp2_with fail
  refine (take_uint16 (H0 _ _).out).mono ?_
  have ew := uns_u16 _ (fixA_lt bs s 2)
  rintro e w1 ⟨rfl, D1, M1⟩
  generalize IntKind.u16.wrap ((fixA bs s 2).2 : Int) = V at *
  have hcv := fun W : World => run_convert_int (P := Try.prog) (w := W) 90 28 .u16 V (by rw [Try.underlying90]; rfl) Try.underlying28
  have hcv2 : ∀ W : World, (convert 90 28 (.int .u16 V)).run Try.prog W = .ok (.int .u64 (((fixA bs s 2).2 : Nat) : Int)) W := fun W => by rw [hcv W, show Try.prog.intKind 28 = .u64 from by kernel_rfl, ew]
  clear hcv ew
  have HD := Lib.hid D1
  have hb4 := got_blk hg M1
  have c0 := hb4.cell 0
  have c1 := hb4.cell 1
  have f0 := hb4.free 0
  have f1 := hb4.free 1
  simp at c0 c1
  clear D1
  go_wp2_with fail
  exact got_done hb4 _ Try.results25 _ rfl rfl _ ⟨rfl, got_dec hg hgb hb4 (by decide) HD.out _ _, got_mod M1 _ _⟩

set_option maxRecDepth 100000 in
set_option maxHeartbeats 1000000 in
theorem take_fix9 {w : World} {g gb : Nat} {bs : List UInt8} {s : St} (most : Nat) (n : Int) (h : DecAt w g gb bs s) (hgb : bs ≠ [] → gb < w.heap.size) :
    Calls Try.prog 25 #[.pointer (some ⟨g, 0, none⟩), takeV 9 most n] w fun e w' =>
      e = .returned (gotV (sgn (fixA bs s 4).2 4) []) ∧ DecAt w' g gb bs (fixA bs s 4).1 ∧ Mod (one g) w w' := by
  obtain ⟨ct, htyp⟩ := h.typ
  have hg := htyp.lt
  have H0 := fun o1 o2 => Lib.hid (h.mod (S := no) (((Mod.refl no w).alloc o1).alloc o2) (fun c => c) (fun _ c => c) (fun _ _ _ c => c))
  clear htyp h
  unfold takeV
  go_enter Try.func25, Try.ntmps25
  go_wp2_with fail
  refine (take_int32 (H0 _ _).out).mono ?_
  have ew := sgn_i32 _ (fixA_lt bs s 4)
  rintro e w1 ⟨rfl, D1, M1⟩
  generalize IntKind.i32.wrap ((fixA bs s 4).2 : Int) = V at *
  have hcv := fun W : World => run_convert_int (P := Try.prog) (w := W) 21 28 .i32 V (by rw [Try.underlying21]; rfl) Try.underlying28
  have hcv2 : ∀ W : World, (convert 21 28 (.int .i32 V)).run Try.prog W = .ok (.int .u64 (((sgn (fixA bs s 4).2 4) : Nat) : Int)) W := fun W => by rw [hcv W, show Try.prog.intKind 28 = .u64 from by kernel_rfl, ew]
  clear hcv ew
  have HD := Lib.hid D1
  have hb4 := got_blk hg M1
  have c0 := hb4.cell 0
  have c1 := hb4.cell 1
  have f0 := hb4.free 0
  have f1 := hb4.free 1
  simp at c0 c1
  clear D1
  go_wp2_with fail
  exact got_done hb4 _ Try.results25 _ rfl rfl _ ⟨rfl, got_dec hg hgb hb4 (by decide) HD.out _ _, got_mod M1 _ _⟩

set_option maxRecDepth 100000 in
set_option maxHeartbeats 1000000 in
theorem take_fix10 {w : World} {g gb : Nat} {bs : List UInt8} {s : St} (most : Nat) (n : Int) (h : DecAt w g gb bs s) (hgb : bs ≠ [] → gb < w.heap.size) :
    Calls Try.prog 25 #[.pointer (some ⟨g, 0, none⟩), takeV 10 most n] w fun e w' =>
      e = .returned (gotV (fixA bs s 4).2 []) ∧ DecAt w' g gb bs (fixA bs s 4).1 ∧ Mod (one g) w w' := by
  obtain ⟨ct, htyp⟩ := h.typ
  have hg := htyp.lt
  have H0 := fun o1 o2 => Lib.hid (h.mod (S := no) (((Mod.refl no w).alloc o1).alloc o2) (fun c => c) (fun _ c => c) (fun _ _ _ c => c))
  clear htyp h
  unfold takeV
  go_enter Try.func25, Try.ntmps25
  go_wp2_with fail
  refine (take_uint32 (H0 _ _).out).mono ?_
  have ew := uns_u32 _ (fixA_lt bs s 4)
  rintro e w1 ⟨rfl, D1, M1⟩
  generalize IntKind.u32.wrap ((fixA bs s 4).2 : Int) = V at *
  have hcv := fun W : World => run_convert_int (P := Try.prog) (w := W) 93 28 .u32 V (by rw [Try.underlying93]; rfl) Try.underlying28
  have hcv2 : ∀ W : World, (convert 93 28 (.int .u32 V)).run Try.prog W = .ok (.int .u64 (((fixA bs s 4).2 : Nat) : Int)) W := fun W => by rw [hcv W, show Try.prog.intKind 28 = .u64 from by kernel_rfl, ew]
  clear hcv ew
  have HD := Lib.hid D1
  have hb4 := got_blk hg M1
  have c0 := hb4.cell 0
  have c1 := hb4.cell 1
  have f0 := hb4.free 0
  have f1 := hb4.free 1
  simp at c0 c1
  clear D1
  go_wp2_with fail
  exact got_done hb4 _ Try.results25 _ rfl rfl _ ⟨rfl, got_dec hg hgb hb4 (by decide) HD.out _ _, got_mod M1 _ _⟩

set_option maxRecDepth 100000 in
set_option maxHeartbeats 1000000 in
theorem take_fix11 {w : World} {g gb : Nat} {bs : List UInt8} {s : St} (most : Nat) (n : Int) (h : DecAt w g gb bs s) (hgb : bs ≠ [] → gb < w.heap.size) :
    Calls Try.prog 25 #[.pointer (some ⟨g, 0, none⟩), takeV 11 most n] w fun e w' =>
      e = .returned (gotV (sgn (fixA bs s 8).2 8) []) ∧ DecAt w' g gb bs (fixA bs s 8).1 ∧ Mod (one g) w w' := by
  obtain ⟨ct, htyp⟩ := h.typ
  have hg := htyp.lt
  have H0 := fun o1 o2 => Lib.hid (h.mod (S := no) (((Mod.refl no w).alloc o1).alloc o2) (fun c => c) (fun _ c => c) (fun _ _ _ c => c))
  clear htyp h
  unfold takeV
  go_enter Try.func25, Try.ntmps25
  go_wp2_with fail
  refine (take_int64 (H0 _ _).out).mono ?_
  have ew := sgn_i64 _ (fixA_lt bs s 8)
  rintro e w1 ⟨rfl, D1, M1⟩
  generalize IntKind.i64.wrap ((fixA bs s 8).2 : Int) = V at *
  have hcv := fun W : World => run_convert_int (P := Try.prog) (w := W) 2 28 .i64 V (by rw [Try.underlying2]; rfl) Try.underlying28
  have hcv2 : ∀ W : World, (convert 2 28 (.int .i64 V)).run Try.prog W = .ok (.int .u64 (((sgn (fixA bs s 8).2 8) : Nat) : Int)) W := fun W => by rw [hcv W, show Try.prog.intKind 28 = .u64 from by kernel_rfl, ew]
  clear hcv ew
  have HD := Lib.hid D1
  have hb4 := got_blk hg M1
  have c0 := hb4.cell 0
  have c1 := hb4.cell 1
  have f0 := hb4.free 0
  have f1 := hb4.free 1
  simp at c0 c1
  clear D1
  go_wp2_with fail
  exact got_done hb4 _ Try.results25 _ rfl rfl _ ⟨rfl, got_dec hg hgb hb4 (by decide) HD.out _ _, got_mod M1 _ _⟩

set_option maxRecDepth 100000 in
set_option maxHeartbeats 1000000 in
theorem take_fix12 {w : World} {g gb : Nat} {bs : List UInt8} {s : St} (most : Nat) (n : Int) (h : DecAt w g gb bs s) (hgb : bs ≠ [] → gb < w.heap.size) :
    Calls Try.prog 25 #[.pointer (some ⟨g, 0, none⟩), takeV 12 most n] w fun e w' =>
      e = .returned (gotV (fixA bs s 8).2 []) ∧ DecAt w' g gb bs (fixA bs s 8).1 ∧ Mod (one g) w w' := by
  obtain ⟨ct, htyp⟩ := h.typ
  have hg := htyp.lt
  have H0 := fun o1 o2 => Lib.hid (h.mod (S := no) (((Mod.refl no w).alloc o1).alloc o2) (fun c => c) (fun _ c => c) (fun _ _ _ c => c))
  clear htyp h
  unfold takeV
  go_enter Try.func25, Try.ntmps25
  go_wp2_with fail
  refine (take_uint64 (H0 _ _).out).mono ?_
  rintro e w1 ⟨rfl, D1, M1⟩
  rw [IntWalk.u64_in _ (by have := fixA_lt bs s 8; omega)]
  have HD := Lib.hid D1
  have hb4 := got_blk hg M1
  have c0 := hb4.cell 0
  have c1 := hb4.cell 1
  have f0 := hb4.free 0
  have f1 := hb4.free 1
  simp at c0 c1
  clear D1
  go_wp2_with fail
  exact got_done hb4 _ Try.results25 _ rfl rfl _ ⟨rfl, got_dec hg hgb hb4 (by decide) HD.out _ _, got_mod M1 _ _⟩

set_option maxRecDepth 100000 in
set_option maxHeartbeats 1000000 in
theorem take_text {w : World} {g gb : Nat} {bs : List UInt8} {s : St} (most : Nat) (n : Int) (h : DecAt w g gb bs s) (hn1 : -9223372036854775808 ≤ n) (hn2 : n ≤ 9223372036854775807) (hgb : bs ≠ [] → gb < w.heap.size) :
    Calls Try.prog 25 #[.pointer (some ⟨g, 0, none⟩), takeV 2 most n] w fun e w' =>
      e = .returned (gotV 0 (textA bs s n).2) ∧ DecAt w' g gb bs (textA bs s n).1 ∧ Mod (one g) w w' := by
  obtain ⟨ct, htyp⟩ := h.typ
  have hg := htyp.lt
  have H0 := fun o1 o2 => Lib.hid (h.mod (S := no) (((Mod.refl no w).alloc o1).alloc o2) (fun c => c) (fun _ c => c) (fun _ _ _ c => c))
  clear htyp h
  unfold takeV
  go_enter Try.func25, Try.ntmps25
  go_wp2_with fail
  refine (text_any n (H0 _ _).out hn1 hn2).mono ?_
  rintro e w1 ⟨rfl, D1, M1⟩
  have HD := Lib.hid D1
  have hb4 := got_blk hg M1
  have c0 := hb4.cell 0
  have c1 := hb4.cell 1
  have f0 := hb4.free 0
  have f1 := hb4.free 1
  simp at c0 c1
  clear D1
  go_wp2_with fail
  exact got_done hb4 _ Try.results25 _ rfl rfl _ ⟨rfl, got_dec hg hgb hb4 (by decide) HD.out _ _, got_mod M1 _ _⟩

set_option maxRecDepth 100000 in
set_option maxHeartbeats 1000000 in
theorem take_raw {w : World} {g gb : Nat} {bs : List UInt8} {s : St} (most : Nat) (n : Int) (h : DecAt w g gb bs s) (hb : bs.length ≤ 70368744177664) (hgb : bs ≠ [] → gb < w.heap.size) :
    Calls Try.prog 25 #[.pointer (some ⟨g, 0, none⟩), takeV 3 most n] w fun e w' =>
      e = .returned (gotV 0 (rawA bs s n).2) ∧ DecAt w' g gb bs (rawA bs s n).1 ∧ Mod (one g) w w' := by
  obtain ⟨ct, htyp⟩ := h.typ
  have hg := htyp.lt
  have H0 := fun o1 o2 => Lib.hid (h.mod (S := no) (((Mod.refl no w).alloc o1).alloc o2) (fun c => c) (fun _ c => c) (fun _ _ _ c => c))
  clear htyp h
  unfold takeV
  go_enter Try.func25, Try.ntmps25
  go_wp2_with fail
  refine (raw_any n (H0 _ _).out (by omega)).mono ?_
  rintro e w1 ⟨A1, k1, rfl, hown, hk1, D1, M1, hnil⟩
  go_wp2_with fail
  refine (spoilt_any hown (by have := raw_len2 bs s n; omega) (by have := M1.size; exact this)).mono ?_
  rintro e w2 ⟨rfl, M2⟩
  have D2 := rowS_dec D1 M2 (by simp; omega) (fun hne => by have := hgb hne; simp; omega) (by decide)
  have M3 : Mod (one g) ((w.alloc _).alloc _) w2 := M1.trans M2 (fun k hk c => by have := c.1; omega)
  clear D1 M1 M2 hown
  have HD := Lib.hid D2
  have hb4 := got_blk hg M3
  have c0 := hb4.cell 0
  have c1 := hb4.cell 1
  have f0 := hb4.free 0
  have f1 := hb4.free 1
  simp at c0 c1
  clear D2
  go_wp2_with fail
  exact got_done hb4 _ Try.results25 _ rfl rfl _ ⟨rfl, got_dec hg hgb hb4 (by decide) HD.out _ _, got_mod M3 _ _⟩

set_option maxRecDepth 100000 in
set_option maxHeartbeats 1000000 in
theorem take_list {w : World} {g gb : Nat} {bs : List UInt8} {s : St} (most : Nat) (n : Int) (h : DecAt w g gb bs s) (hb : bs.length ≤ 70368744177664) (hn1 : -9223372036854775808 ≤ n) (hn2 : n ≤ 9223372036854775807) (hgb : bs ≠ [] → gb < w.heap.size) :
    Calls Try.prog 25 #[.pointer (some ⟨g, 0, none⟩), takeV 13 most n] w fun e w' =>
      e = .returned (gotV 0 (listA bs s n).2) ∧ DecAt w' g gb bs (listA bs s n).1 ∧ Mod (one g) w w' := by
  obtain ⟨ct, htyp⟩ := h.typ
  have hg := htyp.lt
  have H0 := fun o1 o2 => Lib.hid (h.mod (S := no) (((Mod.refl no w).alloc o1).alloc o2) (fun c => c) (fun _ c => c) (fun _ _ _ c => c))
  clear htyp h
  unfold takeV
  go_enter Try.func25, Try.ntmps25
  go_wp2_with fail
  refine (each_u8 n (H0 _ _).out hb (fun hne => by have := hgb hne; simp; omega) hn1 hn2).mono ?_
  rintro e w1 ⟨A1, k1, rfl, hown, D1, M1⟩
  go_wp2_with fail
  refine (spoilt_any hown (by have := list_len2 bs s n; omega) (by have := M1.size; exact this)).mono ?_
  rintro e w2 ⟨rfl, M2⟩
  have D2 := rowS_dec D1 M2 (by simp; omega) (fun hne => by have := hgb hne; simp; omega) (by decide)
  have M3 : Mod (one g) ((w.alloc _).alloc _) w2 := M1.trans M2 (fun k hk c => by have := c.1; omega)
  clear D1 M1 M2 hown
  have HD := Lib.hid D2
  have hb4 := got_blk hg M3
  have c0 := hb4.cell 0
  have c1 := hb4.cell 1
  have f0 := hb4.free 0
  have f1 := hb4.free 1
  simp at c0 c1
  clear D2
  go_wp2_with fail
  exact got_done hb4 _ Try.results25 _ rfl rfl _ ⟨rfl, got_dec hg hgb hb4 (by decide) HD.out _ _, got_mod M3 _ _⟩

end Go.Proofs.Ytpfkcejndjnbhaa.WD

