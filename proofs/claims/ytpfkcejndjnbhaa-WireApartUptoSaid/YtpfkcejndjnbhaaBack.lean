/- The law's back and same (printed by wireback.py). -/
import Derived.Test.YtpfkcejndjnbhaaBackM
namespace Go.Proofs.Ytpfkcejndjnbhaa.BK
open Go.RowKit Mem WM
open Go.Proofs.Ytpfkcejndjnbhaa.WD (RdT u8_info own_mod key_size takeV gotV conv_string sgn_i8 sgn_i16 sgn_i32 nums_bytes)
open Go.Proofs.Ytpfkcejndjnbhaa.OP (AddI allB)
open Go.Proofs.Ytpfkcejndjnbhaa.EN (addL addV addA add_cells addL_blk)
set_option linter.unusedVariables false
set_option linter.unusedSimpArgs false

theorem got_eq (W : World) (a : Nat) (b : List UInt8) : (binOp .eql 66 (gotV a b) (gotV a b)).run Try.prog W = .ok (.bool true) W := by
  have u28 := Try.underlying28
  have u9 := Try.underlying9
  have z28 : (Try.prog.info? 28).map (·.size) = some 1 := by kernel_rfl
  have z9 : (Try.prog.info? 9).map (·.size) = some 1 := by kernel_rfl
  have hS : Try.prog.underlying 66 = some (.struct (Try.prog.fieldsOf 66)) := by kernel_rfl
  have hp : Try.prog.stoodInHeld 66 = false := by kernel_rfl
  unfold gotV
  rw [run_eql_struct, show (10000 : Nat) = 9999 + 1 from rfl, run_equalIn_agg W 9999 66 _ _ hS hp]
  simp only [Program.fieldsOf, Try.underlying66]
  go_simp

theorem take_size : (Try.prog.info? 69).map (·.size) = some 3 := by kernel_rfl

theorem take_done {w1 : World} {k : Nat} {c0 c1 c2 u0 u1 u2 : Value} (hb : Blk w1 k 69 #[c0, c1, c2]) (fn : Func) (hr : fn.results = #[.cell 2 69]) (a : Act) (hp : a.tmps.getD 2 undef = .pointer (some ⟨k, 0, none⟩)) (hd : a.defers = [])
    (R : Ending → World → Prop) (h : R (.returned (.agg #[u0, u1, u2])) (((w1.setCell ⟨k, 0, none⟩ u0).setCell ⟨k, 1, none⟩ u1).setCell ⟨k, 2, none⟩ u2)) : bodyPost Try.prog fn R .ret a (((w1.setCell ⟨k, 0, none⟩ u0).setCell ⟨k, 1, none⟩ u1).setCell ⟨k, 2, none⟩ u2) := by
  have hb2 : Blk (((w1.setCell ⟨k, 0, none⟩ u0).setCell ⟨k, 1, none⟩ u1).setCell ⟨k, 2, none⟩ u2) k 69 #[u0, u1, u2] := by simpa using ((hb.put 0 u0).put 1 u1).put 2 u2
  exact bodyPost_ret (results_cell_row (P := Try.prog) hr a.tmps _ k _ #[u0, u1, u2] (0, 0) _ hp hb2 Try.underlying69 rfl take_size) hd h

/-- The cells of the first block behind a second one. -/
theorem far_cell {w : World} {o : Obj} {i : Nat} {v : Value} (h : (w.alloc o).cell? ⟨w.heap.size, i, none⟩ = some v) (o2 : Obj) : ((w.alloc o).alloc o2).cell? ⟨w.heap.size, i, none⟩ = some v := by
  rw [World.cell?_alloc_lt _ _ _ (by simp)]; exact h

set_option maxRecDepth 100000 in
set_option maxHeartbeats 1000000 in
theorem back_text {w : World} (N : Nat) (S : List UInt8) (A2 : Option Addr) (n cp : Nat) (K : List UInt8) :
    Calls Try.prog 34 #[addV 2 N S A2 n cp K] w fun e w' => e = .returned (takeV 2 0 (S.length : Int)) ∧ Mod no w w' := by
  obtain ⟨c0, c1, c2, c3, c4⟩ := add_cells (addL_blk 2 N S A2 n cp K w)
  have d0 := far_cell c0
  have d1 := far_cell c1
  have d2 := far_cell c2
  have d3 := far_cell c3
  have e2 : ((ByteArray.mk S.toArray).size : Int) = (S.length : Int) := rfl
  have M2 := fun o o2 => Lib.hid (((Mod.refl no w).alloc o).alloc o2)
  generalize hL : addL 2 N S A2 n cp K = L at *
  clear c4 c0 c1 c2 c3
  unfold addV takeV
  rw [hL]
  clear hL
  go_enter Try.func34, Try.ntmps34
  go_wp2_with fail
  have hb : Blk ((w.alloc (.cells L.toArray 32)).alloc (.cells #[.int .i64 2, .int .u64 (0 : Nat), .int .i64 (S.length : Int)] 69)) (w.heap.size + 1) 69 #[.int .i64 2, .int .u64 (0 : Nat), .int .i64 (S.length : Int)] := Blk.new_at _ _ _ (by simp)
  exact bodyPost_ret (results_cell_row (P := Try.prog) Try.results34 _ _ (w.heap.size + 1) _ _ (0, 0) _ rfl hb Try.underlying69 rfl take_size) rfl ⟨rfl, (M2 _ _).out⟩

set_option maxRecDepth 100000 in
set_option maxHeartbeats 1000000 in
theorem back_raw {w : World} (N : Nat) (S : List UInt8) (A2 : Option Addr) (n cp : Nat) (K : List UInt8) :
    Calls Try.prog 34 #[addV 3 N S A2 n cp K] w fun e w' => e = .returned (takeV 3 0 (n : Int)) ∧ Mod no w w' := by
  obtain ⟨c0, c1, c2, c3, c4⟩ := add_cells (addL_blk 3 N S A2 n cp K w)
  have d0 := far_cell c0
  have d1 := far_cell c1
  have d2 := far_cell c2
  have d3 := far_cell c3
  have e2 : ((ByteArray.mk S.toArray).size : Int) = (S.length : Int) := rfl
  have M2 := fun o o2 => Lib.hid (((Mod.refl no w).alloc o).alloc o2)
  generalize hL : addL 3 N S A2 n cp K = L at *
  clear c4 c0 c1 c2 c3
  unfold addV takeV
  rw [hL]
  clear hL
  go_enter Try.func34, Try.ntmps34
  go_wp2_with fail
  have hb : Blk ((w.alloc (.cells L.toArray 32)).alloc (.cells #[.int .i64 3, .int .u64 (0 : Nat), .int .i64 (n : Int)] 69)) (w.heap.size + 1) 69 #[.int .i64 3, .int .u64 (0 : Nat), .int .i64 (n : Int)] := Blk.new_at _ _ _ (by simp)
  exact bodyPost_ret (results_cell_row (P := Try.prog) Try.results34 _ _ (w.heap.size + 1) _ _ (0, 0) _ rfl hb Try.underlying69 rfl take_size) rfl ⟨rfl, (M2 _ _).out⟩

set_option maxRecDepth 100000 in
set_option maxHeartbeats 1000000 in
theorem back_list {w : World} (N : Nat) (S : List UInt8) (A2 : Option Addr) (n cp : Nat) (K : List UInt8) :
    Calls Try.prog 34 #[addV 13 N S A2 n cp K] w fun e w' => e = .returned (takeV 13 0 (n : Int)) ∧ Mod no w w' := by
  obtain ⟨c0, c1, c2, c3, c4⟩ := add_cells (addL_blk 13 N S A2 n cp K w)
  have d0 := far_cell c0
  have d1 := far_cell c1
  have d2 := far_cell c2
  have d3 := far_cell c3
  have e2 : ((ByteArray.mk S.toArray).size : Int) = (S.length : Int) := rfl
  have M2 := fun o o2 => Lib.hid (((Mod.refl no w).alloc o).alloc o2)
  generalize hL : addL 13 N S A2 n cp K = L at *
  clear c4 c0 c1 c2 c3
  unfold addV takeV
  rw [hL]
  clear hL
  go_enter Try.func34, Try.ntmps34
  go_wp2_with fail
  have hb : Blk ((w.alloc (.cells L.toArray 32)).alloc (.cells #[.int .i64 13, .int .u64 (0 : Nat), .int .i64 (n : Int)] 69)) (w.heap.size + 1) 69 #[.int .i64 13, .int .u64 (0 : Nat), .int .i64 (n : Int)] := Blk.new_at _ _ _ (by simp)
  exact bodyPost_ret (results_cell_row (P := Try.prog) Try.results34 _ _ (w.heap.size + 1) _ _ (0, 0) _ rfl hb Try.underlying69 rfl take_size) rfl ⟨rfl, (M2 _ _).out⟩

set_option maxRecDepth 100000 in
set_option maxHeartbeats 1000000 in
theorem back_num {w : World} (N : Nat) (S : List UInt8) (A2 : Option Addr) (n cp : Nat) (K : List UInt8) (kind : Int) (h2 : kind ≠ 2) (h3 : kind ≠ 3) (h13 : kind ≠ 13) :
    Calls Try.prog 34 #[addV kind N S A2 n cp K] w fun e w' => e = .returned (takeV kind N 0) ∧ Mod no w w' := by
  obtain ⟨c0, c1, c2, c3, c4⟩ := add_cells (addL_blk kind N S A2 n cp K w)
  have d0 := far_cell c0
  have d1 := far_cell c1
  have d2 := far_cell c2
  have d3 := far_cell c3
  have e2 : ((ByteArray.mk S.toArray).size : Int) = (S.length : Int) := rfl
  have M2 := fun o o2 => Lib.hid (((Mod.refl no w).alloc o).alloc o2)
  have b2 : (kind == 2) = false := by simpa using h2
  have b3 : (kind == 3) = false := by simpa using h3
  have b13 : (kind == 13) = false := by simpa using h13
  generalize hL : addL kind N S A2 n cp K = L at *
  clear c4 c0 c1 c2 c3 h2 h3 h13
  unfold addV takeV
  rw [hL]
  clear hL
  go_enter Try.func34, Try.ntmps34
  go_wp2_with fail
  have hb : Blk ((w.alloc (.cells L.toArray 32)).alloc (.cells #[.int .i64 kind, .int .u64 (N : Nat), .int .i64 0] 69)) (w.heap.size + 1) 69 #[.int .i64 kind, .int .u64 (N : Nat), .int .i64 0] := Blk.new_at _ _ _ (by simp)
  exact bodyPost_ret (results_cell_row (P := Try.prog) Try.results34 _ _ (w.heap.size + 1) _ _ (0, 0) _ rfl hb Try.underlying69 rfl take_size) rfl ⟨rfl, (M2 _ _).out⟩

theorem conv_at {w : World} {g o : Nat} {l : List UInt8} (h : w.rangeAt g o (bvs l)) (n c : Nat) (hn : n = l.length) (hl : l ≠ []) :
    (convert 23 9 (.slice (some ⟨g, o, none⟩) n c)).run Try.prog w = .ok (.string ⟨l.toArray⟩) w := by
  subst hn
  have := run_convert_bytes_arg (P := Try.prog) w _ _ Try.underlying23 Try.underlying5 g o l.length c (l.map fun b => (b.toNat : Int)) (by simp) (by
    intro i hi
    have := h i _ (bvs_get l i hi)
    rw [this]
    simp [List.getD, List.getElem?_eq_getElem hi]) _ Try.underlying9
  rw [this, nums_bytes]
theorem conv_rds {w : World} {A : Option Addr} {l : List UInt8} (h : Rds w 1 A l.length (bvs l)) (n c : Nat) (hn : n = l.length) :
    (convert 23 9 (.slice A n c)).run Try.prog w = .ok (.string ⟨l.toArray⟩) w := by
  subst hn
  by_cases hl : l = []
  · exact conv_string (fun hne => absurd hl hne) l.length c rfl
  · obtain ⟨ad, rfl, hc⟩ := h.2 (List.length_pos_iff.2 hl)
    have h0 := hc 0 _ (bvs_get l 0 (List.length_pos_iff.2 hl))
    have hsp : ad.spot = none := by simpa [Addr.add] using World.cell?_spot h0
    obtain ⟨b, o, sp⟩ := ad
    simp at hsp
    subst hsp
    exact conv_at (fun j v hv => by have := hc j v hv; rw [Mem.add_plain] at this; exact this) l.length c rfl hl

theorem got_true (W : World) (a : Nat) (b : Array UInt8) : (binOp .eql 66 (.agg #[.int .u64 (a : Int), .string ⟨b⟩]) (.agg #[.int .u64 (a : Int), .string ⟨b⟩])).run Try.prog W = .ok (.bool true) W := by
  have := got_eq W a b.toList
  simpa [gotV] using this

theorem there_i8 (N : Nat) : IntKind.u64.wrap (IntKind.i8.wrap (N : Int)) = ((sgn (N % 256 ^ 1) 1 : Nat) : Int) := by
  simp [IntKind.wrap, IntKind.bits, IntKind.signed, sgn]
  first
    | done
    | omega
    | (split <;> omega)
    | (split <;> split <;> omega)

theorem there_u8 (N : Nat) : IntKind.u64.wrap (IntKind.u8.wrap (N : Int)) = ((N % 256 ^ 1 : Nat) : Int) := by
  simp [IntKind.wrap, IntKind.bits, IntKind.signed]
  first
    | done
    | omega
    | (split <;> omega)
    | (split <;> split <;> omega)

theorem there_i16 (N : Nat) : IntKind.u64.wrap (IntKind.i16.wrap (N : Int)) = ((sgn (N % 256 ^ 2) 2 : Nat) : Int) := by
  simp [IntKind.wrap, IntKind.bits, IntKind.signed, sgn]
  first
    | done
    | omega
    | (split <;> omega)
    | (split <;> split <;> omega)

theorem there_u16 (N : Nat) : IntKind.u64.wrap (IntKind.u16.wrap (N : Int)) = ((N % 256 ^ 2 : Nat) : Int) := by
  simp [IntKind.wrap, IntKind.bits, IntKind.signed]
  first
    | done
    | omega
    | (split <;> omega)
    | (split <;> split <;> omega)

theorem there_i32 (N : Nat) : IntKind.u64.wrap (IntKind.i32.wrap (N : Int)) = ((sgn (N % 256 ^ 4) 4 : Nat) : Int) := by
  simp [IntKind.wrap, IntKind.bits, IntKind.signed, sgn]
  first
    | done
    | omega
    | (split <;> omega)
    | (split <;> split <;> omega)

theorem there_u32 (N : Nat) : IntKind.u64.wrap (IntKind.u32.wrap (N : Int)) = ((N % 256 ^ 4 : Nat) : Int) := by
  simp [IntKind.wrap, IntKind.bits, IntKind.signed]
  first
    | done
    | omega
    | (split <;> omega)
    | (split <;> split <;> omega)

theorem far_range {w : World} {o : Obj} {i : Nat} {xs : List Value} (h : (w.alloc o).rangeAt w.heap.size i xs) (o2 : Obj) : ((w.alloc o).alloc o2).rangeAt w.heap.size i xs := fun j v hv => by
  rw [World.cell?_alloc_lt _ _ _ (by simp)]; exact h j v hv

set_option maxRecDepth 100000 in
set_option maxHeartbeats 1000000 in
theorem same_num1 {w : World} (N : Nat) (S : List UInt8) (A2 : Option Addr) (n cp : Nat) (K : List UInt8) :
    Calls Try.prog 35 #[addV 1 N S A2 n cp K, gotV N []] w fun e w' => e = .returned (.bool true) ∧ Mod no w w' := by
  obtain ⟨c0, c1, c2, c3, c4⟩ := add_cells (addL_blk 1 N S A2 n cp K w)
  have d0 := far_cell c0
  have d1 := far_cell c1
  have d2 := far_cell c2
  have d3 := far_cell c3
  have heq := fun W => got_true W N #[]
  have M2 := fun o o2 => Lib.hid (((Mod.refl no w).alloc o).alloc o2)
  generalize hL : addL 1 N S A2 n cp K = L at *
  clear c4 c0 c1 c2 c3
  unfold addV gotV
  rw [hL]
  clear hL
  go_enter Try.func35, Try.ntmps35
  go_wp2_with fail
  go_ret
  exact ⟨rfl, (M2 _ _).out⟩

set_option maxRecDepth 100000 in
set_option maxHeartbeats 1000000 in
theorem same_num11 {w : World} (N : Nat) (S : List UInt8) (A2 : Option Addr) (n cp : Nat) (K : List UInt8) :
    Calls Try.prog 35 #[addV 11 N S A2 n cp K, gotV N []] w fun e w' => e = .returned (.bool true) ∧ Mod no w w' := by
  obtain ⟨c0, c1, c2, c3, c4⟩ := add_cells (addL_blk 11 N S A2 n cp K w)
  have d0 := far_cell c0
  have d1 := far_cell c1
  have d2 := far_cell c2
  have d3 := far_cell c3
  have heq := fun W => got_true W N #[]
  have M2 := fun o o2 => Lib.hid (((Mod.refl no w).alloc o).alloc o2)
  generalize hL : addL 11 N S A2 n cp K = L at *
  clear c4 c0 c1 c2 c3
  unfold addV gotV
  rw [hL]
  clear hL
  go_enter Try.func35, Try.ntmps35
  go_wp2_with fail
  go_ret
  exact ⟨rfl, (M2 _ _).out⟩

set_option maxRecDepth 100000 in
set_option maxHeartbeats 1000000 in
theorem same_num12 {w : World} (N : Nat) (S : List UInt8) (A2 : Option Addr) (n cp : Nat) (K : List UInt8) :
    Calls Try.prog 35 #[addV 12 N S A2 n cp K, gotV N []] w fun e w' => e = .returned (.bool true) ∧ Mod no w w' := by
  obtain ⟨c0, c1, c2, c3, c4⟩ := add_cells (addL_blk 12 N S A2 n cp K w)
  have d0 := far_cell c0
  have d1 := far_cell c1
  have d2 := far_cell c2
  have d3 := far_cell c3
  have heq := fun W => got_true W N #[]
  have M2 := fun o o2 => Lib.hid (((Mod.refl no w).alloc o).alloc o2)
  generalize hL : addL 12 N S A2 n cp K = L at *
  clear c4 c0 c1 c2 c3
  unfold addV gotV
  rw [hL]
  clear hL
  go_enter Try.func35, Try.ntmps35
  go_wp2_with fail
  go_ret
  exact ⟨rfl, (M2 _ _).out⟩

set_option maxRecDepth 100000 in
set_option maxHeartbeats 1000000 in
theorem same_text {w : World} (N : Nat) (S : List UInt8) (A2 : Option Addr) (n cp : Nat) (K : List UInt8) :
    Calls Try.prog 35 #[addV 2 N S A2 n cp K, gotV 0 S] w fun e w' => e = .returned (.bool true) ∧ Mod no w w' := by
  obtain ⟨c0, c1, c2, c3, c4⟩ := add_cells (addL_blk 2 N S A2 n cp K w)
  have d0 := far_cell c0
  have d1 := far_cell c1
  have d2 := far_cell c2
  have d3 := far_cell c3
  have heq := fun W => got_true W 0 S.toArray
  have M2 := fun o o2 => Lib.hid (((Mod.refl no w).alloc o).alloc o2)
  generalize hL : addL 2 N S A2 n cp K = L at *
  clear c4 c0 c1 c2 c3
  unfold addV gotV
  rw [hL]
  clear hL
  go_enter Try.func35, Try.ntmps35
  go_wp2_with fail
  go_ret
  exact ⟨rfl, (M2 _ _).out⟩

set_option maxRecDepth 100000 in
set_option maxHeartbeats 1000000 in
theorem same_raw {w : World} (N : Nat) (S : List UInt8) (A2 : Option Addr) (n cp : Nat) (K : List UInt8) (B : List UInt8) (hn : n = B.length) (hr : Rds w 1 A2 B.length (bvs B)) :
    Calls Try.prog 35 #[addV 3 N S A2 n cp K, gotV 0 B] w fun e w' => e = .returned (.bool true) ∧ Mod no w w' := by
  obtain ⟨c0, c1, c2, c3, c4⟩ := add_cells (addL_blk 3 N S A2 n cp K w)
  have d0 := far_cell c0
  have d1 := far_cell c1
  have d2 := far_cell c2
  have d3 := far_cell c3
  have heq := fun W => got_true W 0 B.toArray
  have hcv := fun o o2 => conv_rds (OP.rds_mod hr (((Mod.refl no w).alloc o).alloc o2)) n cp hn
  have M2 := fun o o2 => Lib.hid (((Mod.refl no w).alloc o).alloc o2)
  generalize hL : addL 3 N S A2 n cp K = L at *
  clear c4 c0 c1 c2 c3 hr hn
  unfold addV gotV
  rw [hL]
  clear hL
  go_enter Try.func35, Try.ntmps35
  go_wp2_with fail
  go_ret
  exact ⟨rfl, (M2 _ _).out⟩

set_option maxRecDepth 100000 in
set_option maxHeartbeats 1000000 in
theorem same_list {w : World} (N : Nat) (S : List UInt8) (A2 : Option Addr) (n cp : Nat) (K : List UInt8) (B : List UInt8) (hn : n = B.length) (hr : Rds w 1 A2 B.length (bvs B)) :
    Calls Try.prog 35 #[addV 13 N S A2 n cp K, gotV 0 B] w fun e w' => e = .returned (.bool true) ∧ Mod no w w' := by
  obtain ⟨c0, c1, c2, c3, c4⟩ := add_cells (addL_blk 13 N S A2 n cp K w)
  have d0 := far_cell c0
  have d1 := far_cell c1
  have d2 := far_cell c2
  have d3 := far_cell c3
  have heq := fun W => got_true W 0 B.toArray
  have hcv := fun o o2 => conv_rds (OP.rds_mod hr (((Mod.refl no w).alloc o).alloc o2)) n cp hn
  have M2 := fun o o2 => Lib.hid (((Mod.refl no w).alloc o).alloc o2)
  generalize hL : addL 13 N S A2 n cp K = L at *
  clear c4 c0 c1 c2 c3 hr hn
  unfold addV gotV
  rw [hL]
  clear hL
  go_enter Try.func35, Try.ntmps35
  go_wp2_with fail
  go_ret
  exact ⟨rfl, (M2 _ _).out⟩

set_option maxRecDepth 100000 in
set_option maxHeartbeats 1000000 in
theorem same_key {w : World} (N : Nat) (S : List UInt8) (A2 : Option Addr) (n cp : Nat) (K : List UInt8) (hK : K.length = 32) :
    Calls Try.prog 35 #[addV 4 N S A2 n cp K, gotV 0 K] w fun e w' => e = .returned (.bool true) ∧ Mod no w w' := by
  obtain ⟨c0, c1, c2, c3, c4⟩ := add_cells (addL_blk 4 N S A2 n cp K w)
  have d0 := far_cell c0
  have d1 := far_cell c1
  have d2 := far_cell c2
  have d3 := far_cell c3
  have heq := fun W => got_true W 0 K.toArray
  have hcv := fun o2 nq => conv_at (w := (((w.alloc (.cells (addL 4 N S A2 n cp K).toArray 32)).alloc o2).drewN nq)) (far_range c4 o2) 32 32 hK.symm (by rintro rfl; simp at hK)
  have M2 := fun o o2 => Lib.hid (((Mod.refl no w).alloc o).alloc o2)
  generalize hL : addL 4 N S A2 n cp K = L at *
  clear c4 c0 c1 c2 c3 hK
  unfold addV gotV
  rw [hL]
  clear hL
  go_enter Try.func35, Try.ntmps35
  go_wp2_with fail
  go_quiet (fail)
  go_wp2_with fail
  go_ret
  exact ⟨rfl, (M2 _ _).out.drewN _⟩

set_option maxRecDepth 100000 in
set_option maxHeartbeats 1000000 in
theorem same_fix5 {w : World} (N : Nat) (S : List UInt8) (A2 : Option Addr) (n cp : Nat) (K : List UInt8) :
    Calls Try.prog 35 #[addV 5 N S A2 n cp K, gotV (sgn (N % 256 ^ 1) 1) []] w fun e w' => e = .returned (.bool true) ∧ Mod no w w' := by
  obtain ⟨c0, c1, c2, c3, c4⟩ := add_cells (addL_blk 5 N S A2 n cp K w)
  have d0 := far_cell c0
  have d1 := far_cell c1
  have d2 := far_cell c2
  have d3 := far_cell c3
  have hw := there_i8 N
  obtain ⟨V, hV⟩ : ∃ V, V = IntKind.i8.wrap (N : Int) := ⟨_, rfl⟩
  obtain ⟨U, hU⟩ : ∃ U, U = (sgn (N % 256 ^ 1) 1) := ⟨_, rfl⟩
  have hcv : ∀ W : World, (convert 28 85 (.int .u64 (N : Int))).run Try.prog W = .ok (.int .i8 V) W := fun W => by
    have := run_convert_int (P := Try.prog) (w := W) 28 85 .u64 (N : Int) (by rw [Try.underlying28]; rfl) Try.underlying85
    rw [this, show Try.prog.intKind 85 = .i8 from by kernel_rfl, hV]
  rw [← hV, ← hU] at hw
  have hcv2 : ∀ W : World, (convert 85 28 (.int .i8 V)).run Try.prog W = .ok (.int .u64 (U : Int)) W := fun W => by
    have := run_convert_int (P := Try.prog) (w := W) 85 28 .i8 V (by rw [Try.underlying85]; rfl) Try.underlying28
    rw [this, show Try.prog.intKind 28 = .u64 from by kernel_rfl, hw]
  have heq := fun W => got_true W U #[]
  rw [← hU]
  clear hV hU hw
  have M2 := fun o o2 => Lib.hid (((Mod.refl no w).alloc o).alloc o2)
  generalize hL : addL 5 N S A2 n cp K = L at *
  clear c4 c0 c1 c2 c3
  unfold addV gotV
  rw [hL]
  clear hL
  go_enter Try.func35, Try.ntmps35
  go_wp2_with fail
  go_ret
  exact ⟨rfl, (M2 _ _).out⟩

set_option maxRecDepth 100000 in
set_option maxHeartbeats 1000000 in
theorem same_fix6 {w : World} (N : Nat) (S : List UInt8) (A2 : Option Addr) (n cp : Nat) (K : List UInt8) :
    Calls Try.prog 35 #[addV 6 N S A2 n cp K, gotV (N % 256 ^ 1) []] w fun e w' => e = .returned (.bool true) ∧ Mod no w w' := by
  obtain ⟨c0, c1, c2, c3, c4⟩ := add_cells (addL_blk 6 N S A2 n cp K w)
  have d0 := far_cell c0
  have d1 := far_cell c1
  have d2 := far_cell c2
  have d3 := far_cell c3
  have hw := there_u8 N
  obtain ⟨V, hV⟩ : ∃ V, V = IntKind.u8.wrap (N : Int) := ⟨_, rfl⟩
  obtain ⟨U, hU⟩ : ∃ U, U = (N % 256 ^ 1) := ⟨_, rfl⟩
  have hcv : ∀ W : World, (convert 28 5 (.int .u64 (N : Int))).run Try.prog W = .ok (.int .u8 V) W := fun W => by
    have := run_convert_int (P := Try.prog) (w := W) 28 5 .u64 (N : Int) (by rw [Try.underlying28]; rfl) Try.underlying5
    rw [this, show Try.prog.intKind 5 = .u8 from by kernel_rfl, hV]
  rw [← hV, ← hU] at hw
  have hcv2 : ∀ W : World, (convert 5 28 (.int .u8 V)).run Try.prog W = .ok (.int .u64 (U : Int)) W := fun W => by
    have := run_convert_int (P := Try.prog) (w := W) 5 28 .u8 V (by rw [Try.underlying5]; rfl) Try.underlying28
    rw [this, show Try.prog.intKind 28 = .u64 from by kernel_rfl, hw]
  have heq := fun W => got_true W U #[]
  rw [← hU]
  clear hV hU hw
  have M2 := fun o o2 => Lib.hid (((Mod.refl no w).alloc o).alloc o2)
  generalize hL : addL 6 N S A2 n cp K = L at *
  clear c4 c0 c1 c2 c3
  unfold addV gotV
  rw [hL]
  clear hL
  go_enter Try.func35, Try.ntmps35
  go_wp2_with fail
  go_ret
  exact ⟨rfl, (M2 _ _).out⟩

set_option maxRecDepth 100000 in
set_option maxHeartbeats 1000000 in
theorem same_fix7 {w : World} (N : Nat) (S : List UInt8) (A2 : Option Addr) (n cp : Nat) (K : List UInt8) :
    Calls Try.prog 35 #[addV 7 N S A2 n cp K, gotV (sgn (N % 256 ^ 2) 2) []] w fun e w' => e = .returned (.bool true) ∧ Mod no w w' := by
  obtain ⟨c0, c1, c2, c3, c4⟩ := add_cells (addL_blk 7 N S A2 n cp K w)
  have d0 := far_cell c0
  have d1 := far_cell c1
  have d2 := far_cell c2
  have d3 := far_cell c3
  have hw := there_i16 N
  obtain ⟨V, hV⟩ : ∃ V, V = IntKind.i16.wrap (N : Int) := ⟨_, rfl⟩
  obtain ⟨U, hU⟩ : ∃ U, U = (sgn (N % 256 ^ 2) 2) := ⟨_, rfl⟩
  have hcv : ∀ W : World, (convert 28 88 (.int .u64 (N : Int))).run Try.prog W = .ok (.int .i16 V) W := fun W => by
    have := run_convert_int (P := Try.prog) (w := W) 28 88 .u64 (N : Int) (by rw [Try.underlying28]; rfl) Try.underlying88
    rw [this, show Try.prog.intKind 88 = .i16 from by kernel_rfl, hV]
  rw [← hV, ← hU] at hw
  have hcv2 : ∀ W : World, (convert 88 28 (.int .i16 V)).run Try.prog W = .ok (.int .u64 (U : Int)) W := fun W => by
    have := run_convert_int (P := Try.prog) (w := W) 88 28 .i16 V (by rw [Try.underlying88]; rfl) Try.underlying28
    rw [this, show Try.prog.intKind 28 = .u64 from by kernel_rfl, hw]
  have heq := fun W => got_true W U #[]
  rw [← hU]
  clear hV hU hw
  have M2 := fun o o2 => Lib.hid (((Mod.refl no w).alloc o).alloc o2)
  generalize hL : addL 7 N S A2 n cp K = L at *
  clear c4 c0 c1 c2 c3
  unfold addV gotV
  rw [hL]
  clear hL
  go_enter Try.func35, Try.ntmps35
  go_wp2_with fail
  go_ret
  exact ⟨rfl, (M2 _ _).out⟩

set_option maxRecDepth 100000 in
set_option maxHeartbeats 1000000 in
theorem same_fix8 {w : World} (N : Nat) (S : List UInt8) (A2 : Option Addr) (n cp : Nat) (K : List UInt8) :
    Calls Try.prog 35 #[addV 8 N S A2 n cp K, gotV (N % 256 ^ 2) []] w fun e w' => e = .returned (.bool true) ∧ Mod no w w' := by
  obtain ⟨c0, c1, c2, c3, c4⟩ := add_cells (addL_blk 8 N S A2 n cp K w)
  have d0 := far_cell c0
  have d1 := far_cell c1
  have d2 := far_cell c2
  have d3 := far_cell c3
  have hw := there_u16 N
  obtain ⟨V, hV⟩ : ∃ V, V = IntKind.u16.wrap (N : Int) := ⟨_, rfl⟩
  obtain ⟨U, hU⟩ : ∃ U, U = (N % 256 ^ 2) := ⟨_, rfl⟩
  have hcv : ∀ W : World, (convert 28 90 (.int .u64 (N : Int))).run Try.prog W = .ok (.int .u16 V) W := fun W => by
    have := run_convert_int (P := Try.prog) (w := W) 28 90 .u64 (N : Int) (by rw [Try.underlying28]; rfl) Try.underlying90
    rw [this, show Try.prog.intKind 90 = .u16 from by kernel_rfl, hV]
  rw [← hV, ← hU] at hw
  have hcv2 : ∀ W : World, (convert 90 28 (.int .u16 V)).run Try.prog W = .ok (.int .u64 (U : Int)) W := fun W => by
    have := run_convert_int (P := Try.prog) (w := W) 90 28 .u16 V (by rw [Try.underlying90]; rfl) Try.underlying28
    rw [this, show Try.prog.intKind 28 = .u64 from by kernel_rfl, hw]
  have heq := fun W => got_true W U #[]
  rw [← hU]
  clear hV hU hw
  have M2 := fun o o2 => Lib.hid (((Mod.refl no w).alloc o).alloc o2)
  generalize hL : addL 8 N S A2 n cp K = L at *
  clear c4 c0 c1 c2 c3
  unfold addV gotV
  rw [hL]
  clear hL
  go_enter Try.func35, Try.ntmps35
  go_wp2_with fail
  go_ret
  exact ⟨rfl, (M2 _ _).out⟩

set_option maxRecDepth 100000 in
set_option maxHeartbeats 1000000 in
theorem same_fix9 {w : World} (N : Nat) (S : List UInt8) (A2 : Option Addr) (n cp : Nat) (K : List UInt8) :
    Calls Try.prog 35 #[addV 9 N S A2 n cp K, gotV (sgn (N % 256 ^ 4) 4) []] w fun e w' => e = .returned (.bool true) ∧ Mod no w w' := by
  obtain ⟨c0, c1, c2, c3, c4⟩ := add_cells (addL_blk 9 N S A2 n cp K w)
  have d0 := far_cell c0
  have d1 := far_cell c1
  have d2 := far_cell c2
  have d3 := far_cell c3
  have hw := there_i32 N
  obtain ⟨V, hV⟩ : ∃ V, V = IntKind.i32.wrap (N : Int) := ⟨_, rfl⟩
  obtain ⟨U, hU⟩ : ∃ U, U = (sgn (N % 256 ^ 4) 4) := ⟨_, rfl⟩
  have hcv : ∀ W : World, (convert 28 21 (.int .u64 (N : Int))).run Try.prog W = .ok (.int .i32 V) W := fun W => by
    have := run_convert_int (P := Try.prog) (w := W) 28 21 .u64 (N : Int) (by rw [Try.underlying28]; rfl) Try.underlying21
    rw [this, show Try.prog.intKind 21 = .i32 from by kernel_rfl, hV]
  rw [← hV, ← hU] at hw
  have hcv2 : ∀ W : World, (convert 21 28 (.int .i32 V)).run Try.prog W = .ok (.int .u64 (U : Int)) W := fun W => by
    have := run_convert_int (P := Try.prog) (w := W) 21 28 .i32 V (by rw [Try.underlying21]; rfl) Try.underlying28
    rw [this, show Try.prog.intKind 28 = .u64 from by kernel_rfl, hw]
  have heq := fun W => got_true W U #[]
  rw [← hU]
  clear hV hU hw
  have M2 := fun o o2 => Lib.hid (((Mod.refl no w).alloc o).alloc o2)
  generalize hL : addL 9 N S A2 n cp K = L at *
  clear c4 c0 c1 c2 c3
  unfold addV gotV
  rw [hL]
  clear hL
  go_enter Try.func35, Try.ntmps35
  go_wp2_with fail
  go_ret
  exact ⟨rfl, (M2 _ _).out⟩

set_option maxRecDepth 100000 in
set_option maxHeartbeats 1000000 in
theorem same_fix10 {w : World} (N : Nat) (S : List UInt8) (A2 : Option Addr) (n cp : Nat) (K : List UInt8) :
    Calls Try.prog 35 #[addV 10 N S A2 n cp K, gotV (N % 256 ^ 4) []] w fun e w' => e = .returned (.bool true) ∧ Mod no w w' := by
  obtain ⟨c0, c1, c2, c3, c4⟩ := add_cells (addL_blk 10 N S A2 n cp K w)
  have d0 := far_cell c0
  have d1 := far_cell c1
  have d2 := far_cell c2
  have d3 := far_cell c3
  have hw := there_u32 N
  obtain ⟨V, hV⟩ : ∃ V, V = IntKind.u32.wrap (N : Int) := ⟨_, rfl⟩
  obtain ⟨U, hU⟩ : ∃ U, U = (N % 256 ^ 4) := ⟨_, rfl⟩
  have hcv : ∀ W : World, (convert 28 93 (.int .u64 (N : Int))).run Try.prog W = .ok (.int .u32 V) W := fun W => by
    have := run_convert_int (P := Try.prog) (w := W) 28 93 .u64 (N : Int) (by rw [Try.underlying28]; rfl) Try.underlying93
    rw [this, show Try.prog.intKind 93 = .u32 from by kernel_rfl, hV]
  rw [← hV, ← hU] at hw
  have hcv2 : ∀ W : World, (convert 93 28 (.int .u32 V)).run Try.prog W = .ok (.int .u64 (U : Int)) W := fun W => by
    have := run_convert_int (P := Try.prog) (w := W) 93 28 .u32 V (by rw [Try.underlying93]; rfl) Try.underlying28
    rw [this, show Try.prog.intKind 28 = .u64 from by kernel_rfl, hw]
  have heq := fun W => got_true W U #[]
  rw [← hU]
  clear hV hU hw
  have M2 := fun o o2 => Lib.hid (((Mod.refl no w).alloc o).alloc o2)
  generalize hL : addL 10 N S A2 n cp K = L at *
  clear c4 c0 c1 c2 c3
  unfold addV gotV
  rw [hL]
  clear hL
  go_enter Try.func35, Try.ntmps35
  go_wp2_with fail
  go_ret
  exact ⟨rfl, (M2 _ _).out⟩

set_option maxRecDepth 100000 in
set_option maxHeartbeats 1000000 in
theorem same_none {w : World} (N : Nat) (S : List UInt8) (A2 : Option Addr) (n cp : Nat) (K : List UInt8) (kind : Int) (h1 : kind ≠ 1) (h2 : kind ≠ 2) (h3 : kind ≠ 3) (h4 : kind ≠ 4) (h5 : kind ≠ 5) (h6 : kind ≠ 6) (h7 : kind ≠ 7) (h8 : kind ≠ 8) (h9 : kind ≠ 9) (h10 : kind ≠ 10) (h11 : kind ≠ 11) (h12 : kind ≠ 12) (h13 : kind ≠ 13) :
    Calls Try.prog 35 #[addV kind N S A2 n cp K, gotV 0 []] w fun e w' => e = .returned (.bool true) ∧ Mod no w w' := by
  obtain ⟨c0, c1, c2, c3, c4⟩ := add_cells (addL_blk kind N S A2 n cp K w)
  have d0 := far_cell c0
  have d1 := far_cell c1
  have d2 := far_cell c2
  have d3 := far_cell c3
  have heq := fun W => got_true W 0 #[]
  have M2 := fun o o2 => Lib.hid (((Mod.refl no w).alloc o).alloc o2)
  have b1 : (kind == 1) = false := by simpa using h1
  have b2 : (kind == 2) = false := by simpa using h2
  have b3 : (kind == 3) = false := by simpa using h3
  have b4 : (kind == 4) = false := by simpa using h4
  have b5 : (kind == 5) = false := by simpa using h5
  have b6 : (kind == 6) = false := by simpa using h6
  have b7 : (kind == 7) = false := by simpa using h7
  have b8 : (kind == 8) = false := by simpa using h8
  have b9 : (kind == 9) = false := by simpa using h9
  have b10 : (kind == 10) = false := by simpa using h10
  have b11 : (kind == 11) = false := by simpa using h11
  have b12 : (kind == 12) = false := by simpa using h12
  have b13 : (kind == 13) = false := by simpa using h13
  generalize hL : addL kind N S A2 n cp K = L at *
  clear c4 c0 c1 c2 c3 h1 h2 h3 h4 h5 h6 h7 h8 h9 h10 h11 h12 h13
  unfold addV gotV
  rw [hL]
  clear hL
  go_enter Try.func35, Try.ntmps35
  go_wp2_with fail
  go_ret
  exact ⟨rfl, (M2 _ _).out⟩

end Go.Proofs.Ytpfkcejndjnbhaa.BK
