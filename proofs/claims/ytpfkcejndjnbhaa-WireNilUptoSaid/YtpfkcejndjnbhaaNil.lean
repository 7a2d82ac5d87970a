/- Nil objects (printed by wirenil.py). -/
import Derived.Test.YtpfkcejndjnbhaaBack
namespace Go.Proofs.Ytpfkcejndjnbhaa.NI
open Go.RowKit Mem WM
open Go.Proofs.Ytpfkcejndjnbhaa.WD (RdT u8_info own_mod key_size takeV gotV got_done spoilt_any got_size wpList_store_key conv_range rowS)
open Go.Proofs.Ytpfkcejndjnbhaa.OP (AddI AddAt allB Elems)
open Go.Proofs.Ytpfkcejndjnbhaa.EN (addL addV addA add_cells addL_blk)
open Go.Proofs.Ytpfkcejndjnbhaa.BK (far_cell)
set_option linter.unusedVariables false
set_option linter.unusedSimpArgs false

theorem over_nil (w : World) : Calls Try.prog 51 #[.pointer none] w fun e w' => e = .returned (.bool true) ∧ w = w' := by
  go_enter Try.func51, Try.ntmps51
  go_wp2_with fail
  go_ret
  exact ⟨rfl, rfl⟩
theorem evar_nil (w : World) (v : Value) : Calls Try.prog 28 #[.pointer none, v] w fun e w' => e = .returned (.tuple #[]) ∧ w = w' := by
  go_enter Try.func28, Try.ntmps28
  go_wp2_with fail
  exact bodyPost_ret (results_none Try.results28 _ _ _) rfl ⟨rfl, rfl⟩
theorem etext_nil (w : World) (s : ByteArray) : Calls Try.prog 36 #[.pointer none, .string s] w fun e w' => e = .returned (.tuple #[]) ∧ w = w' := by
  go_enter Try.func36, Try.ntmps36
  go_wp2_with (first | (go_at_call 28; refine (evar_nil _ _).mono ?_; rintro e w1 ⟨rfl, rfl⟩))
  go_end0
  exact ⟨rfl, rfl⟩
theorem eraw_nil (w : World) (v : Value) : Calls Try.prog 33 #[.pointer none, v] w fun e w' => e = .returned (.tuple #[]) ∧ w = w' := by
  go_enter Try.func33, Try.ntmps33
  go_wp2_with fail
  go_end0
  exact ⟨rfl, rfl⟩
theorem ekey_nil (w : World) (L : List Value) : Calls Try.prog 37 #[.pointer none, .agg L.toArray] w fun e w' => e = .returned (.tuple #[]) ∧ Mod no w w' := by
  go_enter Try.func37, Try.ntmps37
  go_wp2_with (first | (go_at_call 33; refine (eraw_nil _ _).mono ?_; rintro e w1 ⟨rfl, rfl⟩))
  go_end0
  exact ⟨rfl, (Mod.refl _ _).alloc _⟩
theorem elen_nil (w : World) : Calls Try.prog 13 #[.pointer none] w fun e w' => e = .returned (.int .i64 0) ∧ w = w' := by
  go_enter Try.func13, Try.ntmps13
  go_wp2_with fail
  go_ret
  exact ⟨rfl, rfl⟩
theorem ebytes_nil (w : World) : Calls Try.prog 12 #[.pointer none] w fun e w' => e = .returned (.slice none 0 0) ∧ w = w' := by
  go_enter Try.func12, Try.ntmps12
  go_wp2_with fail
  go_ret
  exact ⟨rfl, rfl⟩
theorem at_nil (w : World) : Calls Try.prog 32 #[.pointer none] w fun e w' => e = .returned (.int .i64 0) ∧ w = w' := by
  go_enter Try.func32, Try.ntmps32
  go_wp2_with fail
  go_ret
  exact ⟨rfl, rfl⟩
theorem left_nil (w : World) : Calls Try.prog 30 #[.pointer none] w fun e w' => e = .returned (.int .i64 0) ∧ w = w' := by
  go_enter Try.func30, Try.ntmps30
  go_wp2_with (first | (go_at_call 51; refine (over_nil _).mono ?_; rintro e w1 ⟨rfl, rfl⟩))
  go_ret
  exact ⟨rfl, rfl⟩
theorem end_nil (w : World) : Calls Try.prog 24 #[.pointer none] w fun e w' => e = .returned (.iface 58 (.agg #[.int .i64 0, .int .i64 1])) ∧ w = w' := by
  go_enter Try.func24, Try.ntmps24
  go_wp2_with fail
  go_ret
  exact ⟨rfl, rfl⟩
theorem dvar_nil (w : World) (v : Value) : Calls Try.prog 29 #[.pointer none, v] w fun e w' => e = .returned (.int .u64 0) ∧ w = w' := by
  go_enter Try.func29, Try.ntmps29
  go_wp2_with (first | (go_at_call 51; refine (over_nil _).mono ?_; rintro e w1 ⟨rfl, rfl⟩))
  go_ret
  exact ⟨rfl, rfl⟩
theorem dtext_nil (w : World) (v : Value) : Calls Try.prog 58 #[.pointer none, v] w fun e w' => e = .returned (.string ⟨#[]⟩) ∧ w = w' := by
  go_enter Try.func58, Try.ntmps58
  go_wp2_with (first | (go_at_call 51; refine (over_nil _).mono ?_; rintro e w1 ⟨rfl, rfl⟩))
  go_ret
  exact ⟨rfl, rfl⟩
theorem draw_nil (w : World) (v : Value) : Calls Try.prog 19 #[.pointer none, v] w fun e w' => e = .returned (.slice none 0 0) ∧ w = w' := by
  go_enter Try.func19, Try.ntmps19
  go_wp2_with (first | (go_at_call 51; refine (over_nil _).mono ?_; rintro e w1 ⟨rfl, rfl⟩))
  go_ret
  exact ⟨rfl, rfl⟩
theorem each8_nil (w : World) (v f : Value) : Calls Try.prog 69 #[.pointer none, v, f] w fun e w' => e = .returned (.slice none 0 0) ∧ w = w' := by
  go_enter Try.func69, Try.ntmps69
  go_wp2_with (first | (go_at_call 51; refine (over_nil _).mono ?_; rintro e w1 ⟨rfl, rfl⟩))
  go_ret
  exact ⟨rfl, rfl⟩
theorem eachi_nil (w : World) (v f : Value) : Calls Try.prog 23 #[.pointer none, v, f] w fun e w' => e = .returned (.slice none 0 0) ∧ w = w' := by
  go_enter Try.func23, Try.ntmps23
  go_wp2_with (first | (go_at_call 51; refine (over_nil _).mono ?_; rintro e w1 ⟨rfl, rfl⟩))
  go_ret
  exact ⟨rfl, rfl⟩
theorem nkey_done (w w1 : World) (hth : w1.there w.heap.size 0 32) (M0 : Mod no w w1) (vs : List Value) (hvs : vs = bvs (List.replicate 32 0)) (hl : vs.length = 32) (a : Act) (h2 : a.tmps[2]? = some (.pointer (some ⟨w.heap.size, 0, none⟩))) (hd : a.defers = []) (fn : Func) (hr : fn.results = #[.cell 2 30]) :
    bodyPost Try.prog fn (fun e w' => e = .returned (.agg (bvs (List.replicate 32 0)).toArray) ∧ Mod no w w') Exit.ret a (w1.setCells w.heap.size 0 vs) := by
  have hload := run_loadVar_mid (P := Try.prog) (w1.setCells w.heap.size 0 vs) w.heap.size 0 30 vs _ (World.rangeAt_setCells_same w1 w.heap.size 0 vs (by rw [hl]; exact hth)) Try.underlying30 rfl (by rw [hl]; exact key_size)
  refine bodyPost_ret (v := .agg vs.toArray) ?_ hd ⟨by rw [hvs], WD.mod_sets (S := no) (fun c => absurd c (Nat.lt_irrefl _)) _ _ _ M0⟩
  simp [results, hr, h2, asAddr, hload]

set_option maxRecDepth 100000 in
theorem dkey_nil (w : World) : Calls Try.prog 60 #[.pointer none] w fun e w' => e = .returned (.agg (bvs (List.replicate 32 0)).toArray) ∧ Mod no w w' := by
  have heq := fun (W : World) => Lib.run_eql_slice_nil (P := Try.prog) W 23 5 none 0 0 0 0 Try.underlying23
  simp only [Option.isNone_none] at heq
  go_enter Try.func60, Try.ntmps60
  go_wp2_with fail
  refine (draw_nil _ _).mono ?_
  rintro e w1 ⟨rfl, hw⟩
  have hkb : Blk w1 w.heap.size 30 (Array.replicate 32 (.int .u8 0)) := by rw [← hw]; exact Blk.new w _ _
  have hM : Mod no w w1 := by rw [← hw]; exact (Mod.refl _ _).alloc _
  have HTH := Lib.hid (show w1.there w.heap.size 0 32 from fun j hj => ⟨by rw [hkb.cell]; simp [hj], hkb.free _⟩)
  have HM := Lib.hid hM
  clear hw hM hkb
  go_wp2_with (refine wpList_store_mid rfl 30 (.tmp 2) (.tmp 8) rfl w.heap.size 0 (Array.replicate 32 (Value.int .u8 0)) rfl rfl HTH.out key_size WD.zeros_one ?_)
  refine nkey_done w w1 HTH.out HM.out (List.replicate 32 (.int .u8 0)) (by simp [bvs, bv]) (by simp) _ ?_ ?_ _ Try.results60
  · rfl
  · rfl

theorem eput_int8 (w : World) (v : Value) : Calls Try.prog 38 #[.pointer none, v] w fun e w' => e = .returned (.tuple #[]) ∧ w = w' := by
  go_enter Try.func38, Try.ntmps38
  go_wp2_with fail
  exact bodyPost_ret (results_none Try.results38 _ _ _) rfl ⟨rfl, rfl⟩
theorem dtake_int8 (w : World) : Calls Try.prog 61 #[.pointer none] w fun e w' => e = .returned (.int .i8 0) ∧ w = w' := by
  go_enter Try.func61, Try.ntmps61
  go_wp2_with (first | (go_at_call 51; refine (over_nil _).mono ?_; rintro e w1 ⟨rfl, rfl⟩))
  go_ret
  exact ⟨rfl, rfl⟩

theorem eput_uint8 (w : World) (v : Value) : Calls Try.prog 39 #[.pointer none, v] w fun e w' => e = .returned (.tuple #[]) ∧ w = w' := by
  go_enter Try.func39, Try.ntmps39
  go_wp2_with fail
  exact bodyPost_ret (results_none Try.results39 _ _ _) rfl ⟨rfl, rfl⟩
theorem dtake_uint8 (w : World) : Calls Try.prog 62 #[.pointer none] w fun e w' => e = .returned (.int .u8 0) ∧ w = w' := by
  go_enter Try.func62, Try.ntmps62
  go_wp2_with (first | (go_at_call 51; refine (over_nil _).mono ?_; rintro e w1 ⟨rfl, rfl⟩))
  go_ret
  exact ⟨rfl, rfl⟩

theorem eput_int16 (w : World) (v : Value) : Calls Try.prog 40 #[.pointer none, v] w fun e w' => e = .returned (.tuple #[]) ∧ w = w' := by
  go_enter Try.func40, Try.ntmps40
  go_wp2_with fail
  exact bodyPost_ret (results_none Try.results40 _ _ _) rfl ⟨rfl, rfl⟩
theorem dtake_int16 (w : World) : Calls Try.prog 63 #[.pointer none] w fun e w' => e = .returned (.int .i16 0) ∧ w = w' := by
  go_enter Try.func63, Try.ntmps63
  go_wp2_with (first | (go_at_call 51; refine (over_nil _).mono ?_; rintro e w1 ⟨rfl, rfl⟩))
  go_ret
  exact ⟨rfl, rfl⟩

theorem eput_uint16 (w : World) (v : Value) : Calls Try.prog 41 #[.pointer none, v] w fun e w' => e = .returned (.tuple #[]) ∧ w = w' := by
  go_enter Try.func41, Try.ntmps41
  go_wp2_with fail
  exact bodyPost_ret (results_none Try.results41 _ _ _) rfl ⟨rfl, rfl⟩
theorem dtake_uint16 (w : World) : Calls Try.prog 64 #[.pointer none] w fun e w' => e = .returned (.int .u16 0) ∧ w = w' := by
  go_enter Try.func64, Try.ntmps64
  go_wp2_with (first | (go_at_call 51; refine (over_nil _).mono ?_; rintro e w1 ⟨rfl, rfl⟩))
  go_ret
  exact ⟨rfl, rfl⟩

theorem eput_int32 (w : World) (v : Value) : Calls Try.prog 42 #[.pointer none, v] w fun e w' => e = .returned (.tuple #[]) ∧ w = w' := by
  go_enter Try.func42, Try.ntmps42
  go_wp2_with fail
  exact bodyPost_ret (results_none Try.results42 _ _ _) rfl ⟨rfl, rfl⟩
theorem dtake_int32 (w : World) : Calls Try.prog 65 #[.pointer none] w fun e w' => e = .returned (.int .i32 0) ∧ w = w' := by
  go_enter Try.func65, Try.ntmps65
  go_wp2_with (first | (go_at_call 51; refine (over_nil _).mono ?_; rintro e w1 ⟨rfl, rfl⟩))
  go_ret
  exact ⟨rfl, rfl⟩

theorem eput_uint32 (w : World) (v : Value) : Calls Try.prog 43 #[.pointer none, v] w fun e w' => e = .returned (.tuple #[]) ∧ w = w' := by
  go_enter Try.func43, Try.ntmps43
  go_wp2_with fail
  exact bodyPost_ret (results_none Try.results43 _ _ _) rfl ⟨rfl, rfl⟩
theorem dtake_uint32 (w : World) : Calls Try.prog 66 #[.pointer none] w fun e w' => e = .returned (.int .u32 0) ∧ w = w' := by
  go_enter Try.func66, Try.ntmps66
  go_wp2_with (first | (go_at_call 51; refine (over_nil _).mono ?_; rintro e w1 ⟨rfl, rfl⟩))
  go_ret
  exact ⟨rfl, rfl⟩

theorem eput_int64 (w : World) (v : Value) : Calls Try.prog 44 #[.pointer none, v] w fun e w' => e = .returned (.tuple #[]) ∧ w = w' := by
  go_enter Try.func44, Try.ntmps44
  go_wp2_with fail
  exact bodyPost_ret (results_none Try.results44 _ _ _) rfl ⟨rfl, rfl⟩
theorem dtake_int64 (w : World) : Calls Try.prog 67 #[.pointer none] w fun e w' => e = .returned (.int .i64 0) ∧ w = w' := by
  go_enter Try.func67, Try.ntmps67
  go_wp2_with (first | (go_at_call 51; refine (over_nil _).mono ?_; rintro e w1 ⟨rfl, rfl⟩))
  go_ret
  exact ⟨rfl, rfl⟩

theorem eput_uint64 (w : World) (v : Value) : Calls Try.prog 45 #[.pointer none, v] w fun e w' => e = .returned (.tuple #[]) ∧ w = w' := by
  go_enter Try.func45, Try.ntmps45
  go_wp2_with fail
  exact bodyPost_ret (results_none Try.results45 _ _ _) rfl ⟨rfl, rfl⟩
theorem dtake_uint64 (w : World) : Calls Try.prog 68 #[.pointer none] w fun e w' => e = .returned (.int .u64 0) ∧ w = w' := by
  go_enter Try.func68, Try.ntmps68
  go_wp2_with (first | (go_at_call 51; refine (over_nil _).mono ?_; rintro e w1 ⟨rfl, rfl⟩))
  go_ret
  exact ⟨rfl, rfl⟩

set_option maxRecDepth 100000 in
set_option maxHeartbeats 1000000 in
theorem put0_var {w : World} (N : Nat) (S : List UInt8) (A2 : Option Addr) (n cp : Nat) (K : List UInt8) :
    Calls Try.prog 10 #[.pointer none, addV 1 N S A2 n cp K] w fun e w' => e = .returned (.tuple #[]) ∧ Mod no w w' := by
  obtain ⟨c0, c1, c2, c3, c4⟩ := add_cells (addL_blk 1 N S A2 n cp K w)
  generalize hL : addL 1 N S A2 n cp K = L at *
  clear c4
  unfold addV
  rw [hL]
  clear hL
  go_enter Try.func10, Try.ntmps10
  go_wp2_with (first | (go_at_call 28; refine (evar_nil _ _).mono ?_; rintro e w1 ⟨rfl, rfl⟩))
  go_end0
  exact ⟨rfl, (Mod.refl _ _).alloc _⟩

set_option maxRecDepth 100000 in
set_option maxHeartbeats 1000000 in
theorem put0_text {w : World} (N : Nat) (S : List UInt8) (A2 : Option Addr) (n cp : Nat) (K : List UInt8) :
    Calls Try.prog 10 #[.pointer none, addV 2 N S A2 n cp K] w fun e w' => e = .returned (.tuple #[]) ∧ Mod no w w' := by
  obtain ⟨c0, c1, c2, c3, c4⟩ := add_cells (addL_blk 2 N S A2 n cp K w)
  generalize hL : addL 2 N S A2 n cp K = L at *
  clear c4
  unfold addV
  rw [hL]
  clear hL
  go_enter Try.func10, Try.ntmps10
  go_wp2_with (first | (go_at_call 36; refine (etext_nil _ _).mono ?_; rintro e w1 ⟨rfl, rfl⟩))
  go_end0
  exact ⟨rfl, (Mod.refl _ _).alloc _⟩

set_option maxRecDepth 100000 in
set_option maxHeartbeats 1000000 in
theorem put0_raw {w : World} (N : Nat) (S : List UInt8) (A2 : Option Addr) (n cp : Nat) (K : List UInt8) :
    Calls Try.prog 10 #[.pointer none, addV 3 N S A2 n cp K] w fun e w' => e = .returned (.tuple #[]) ∧ Mod no w w' := by
  obtain ⟨c0, c1, c2, c3, c4⟩ := add_cells (addL_blk 3 N S A2 n cp K w)
  generalize hL : addL 3 N S A2 n cp K = L at *
  clear c4
  unfold addV
  rw [hL]
  clear hL
  go_enter Try.func10, Try.ntmps10
  go_wp2_with (first | (go_at_call 33; refine (eraw_nil _ _).mono ?_; rintro e w1 ⟨rfl, rfl⟩))
  go_end0
  exact ⟨rfl, (Mod.refl _ _).alloc _⟩

set_option maxRecDepth 100000 in
set_option maxHeartbeats 1000000 in
theorem put0_key {w : World} (N : Nat) (S : List UInt8) (A2 : Option Addr) (n cp : Nat) (K : List UInt8) (hK : K.length = 32) :
    Calls Try.prog 10 #[.pointer none, addV 4 N S A2 n cp K] w fun e w' => e = .returned (.tuple #[]) ∧ Mod no w w' := by
  obtain ⟨c0, c1, c2, c3, c4⟩ := add_cells (addL_blk 4 N S A2 n cp K w)
  have HKS := Lib.hid (show (Try.prog.info? 30).map (·.size) = some (bvs K).length by rw [bvs_length, hK]; exact key_size)
  have HR4 := Lib.hid c4
  clear c4
  generalize hL : addL 4 N S A2 n cp K = L at *
  clear hK
  unfold addV
  rw [hL]
  clear hL
  go_enter Try.func10, Try.ntmps10
  go_wp2_with (first
    | (with_reducible show wpList _ _ _ _ _ _; refine wpList_load_mid rfl 30 (.tmp 27) rfl w.heap.size 4 rfl (bvs K) _ HR4.out Try.underlying30 rfl HKS.out ?_)
    | (go_at_call 37; refine (ekey_nil _ _).mono ?_; rintro e w1 ⟨rfl, M1⟩))
  go_end0
  exact ⟨rfl, ((Mod.refl _ _).alloc _).and_then M1⟩

set_option maxRecDepth 100000 in
set_option maxHeartbeats 1000000 in
theorem put0_list {w : World} (N : Nat) (S : List UInt8) (A2 : Option Addr) (n cp : Nat) (K : List UInt8) :
    Calls Try.prog 10 #[.pointer none, addV 13 N S A2 n cp K] w fun e w' => e = .returned (.tuple #[]) ∧ Mod no w w' := by
  obtain ⟨c0, c1, c2, c3, c4⟩ := add_cells (addL_blk 13 N S A2 n cp K w)
  generalize hL : addL 13 N S A2 n cp K = L at *
  clear c4
  unfold addV
  rw [hL]
  clear hL
  go_enter Try.func10, Try.ntmps10
  go_wp2_with (first
    | (go_at_call 28; refine (evar_nil _ _).mono ?_; rintro e w1 ⟨rfl, rfl⟩)
    | (go_at_call 33; refine (eraw_nil _ _).mono ?_; rintro e w1 ⟨rfl, rfl⟩))
  go_end0
  exact ⟨rfl, (Mod.refl _ _).alloc _⟩

set_option maxRecDepth 100000 in
set_option maxHeartbeats 1000000 in
theorem put0_fix5 {w : World} (N : Nat) (S : List UInt8) (A2 : Option Addr) (n cp : Nat) (K : List UInt8) :
    Calls Try.prog 10 #[.pointer none, addV 5 N S A2 n cp K] w fun e w' => e = .returned (.tuple #[]) ∧ Mod no w w' := by
  obtain ⟨c0, c1, c2, c3, c4⟩ := add_cells (addL_blk 5 N S A2 n cp K w)
  obtain ⟨V, hV⟩ : ∃ V, V = IntKind.i8.wrap (N : Int) := ⟨_, rfl⟩
  have hcv : ∀ W : World, (convert 28 85 (.int .u64 (N : Int))).run Try.prog W = .ok (.int .i8 V) W := fun W => by
    have := run_convert_int (P := Try.prog) (w := W) 28 85 .u64 (N : Int) (by rw [Try.underlying28]; rfl) Try.underlying85
    rw [this, show Try.prog.intKind 85 = .i8 from by kernel_rfl, hV]
  clear hV
  generalize hL : addL 5 N S A2 n cp K = L at *
  clear c4
  unfold addV
  rw [hL]
  clear hL
  go_enter Try.func10, Try.ntmps10
  go_wp2_with (first | (go_at_call 38; refine (eput_int8 _ _).mono ?_; rintro e w1 ⟨rfl, rfl⟩))
  go_end0
  exact ⟨rfl, (Mod.refl _ _).alloc _⟩

set_option maxRecDepth 100000 in
set_option maxHeartbeats 1000000 in
theorem put0_fix6 {w : World} (N : Nat) (S : List UInt8) (A2 : Option Addr) (n cp : Nat) (K : List UInt8) :
    Calls Try.prog 10 #[.pointer none, addV 6 N S A2 n cp K] w fun e w' => e = .returned (.tuple #[]) ∧ Mod no w w' := by
  obtain ⟨c0, c1, c2, c3, c4⟩ := add_cells (addL_blk 6 N S A2 n cp K w)
  obtain ⟨V, hV⟩ : ∃ V, V = IntKind.u8.wrap (N : Int) := ⟨_, rfl⟩
  have hcv : ∀ W : World, (convert 28 5 (.int .u64 (N : Int))).run Try.prog W = .ok (.int .u8 V) W := fun W => by
    have := run_convert_int (P := Try.prog) (w := W) 28 5 .u64 (N : Int) (by rw [Try.underlying28]; rfl) Try.underlying5
    rw [this, show Try.prog.intKind 5 = .u8 from by kernel_rfl, hV]
  clear hV
  generalize hL : addL 6 N S A2 n cp K = L at *
  clear c4
  unfold addV
  rw [hL]
  clear hL
  go_enter Try.func10, Try.ntmps10
  go_wp2_with (first | (go_at_call 39; refine (eput_uint8 _ _).mono ?_; rintro e w1 ⟨rfl, rfl⟩))
  go_end0
  exact ⟨rfl, (Mod.refl _ _).alloc _⟩

set_option maxRecDepth 100000 in
set_option maxHeartbeats 1000000 in
theorem put0_fix7 {w : World} (N : Nat) (S : List UInt8) (A2 : Option Addr) (n cp : Nat) (K : List UInt8) :
    Calls Try.prog 10 #[.pointer none, addV 7 N S A2 n cp K] w fun e w' => e = .returned (.tuple #[]) ∧ Mod no w w' := by
  obtain ⟨c0, c1, c2, c3, c4⟩ := add_cells (addL_blk 7 N S A2 n cp K w)
  obtain ⟨V, hV⟩ : ∃ V, V = IntKind.i16.wrap (N : Int) := ⟨_, rfl⟩
  have hcv : ∀ W : World, (convert 28 88 (.int .u64 (N : Int))).run Try.prog W = .ok (.int .i16 V) W := fun W => by
    have := run_convert_int (P := Try.prog) (w := W) 28 88 .u64 (N : Int) (by rw [Try.underlying28]; rfl) Try.underlying88
    rw [this, show Try.prog.intKind 88 = .i16 from by kernel_rfl, hV]
  clear hV
  generalize hL : addL 7 N S A2 n cp K = L at *
  clear c4
  unfold addV
  rw [hL]
  clear hL
  go_enter Try.func10, Try.ntmps10
  go_wp2_with (first | (go_at_call 40; refine (eput_int16 _ _).mono ?_; rintro e w1 ⟨rfl, rfl⟩))
  go_end0
  exact ⟨rfl, (Mod.refl _ _).alloc _⟩

set_option maxRecDepth 100000 in
set_option maxHeartbeats 1000000 in
theorem put0_fix8 {w : World} (N : Nat) (S : List UInt8) (A2 : Option Addr) (n cp : Nat) (K : List UInt8) :
    Calls Try.prog 10 #[.pointer none, addV 8 N S A2 n cp K] w fun e w' => e = .returned (.tuple #[]) ∧ Mod no w w' := by
  obtain ⟨c0, c1, c2, c3, c4⟩ := add_cells (addL_blk 8 N S A2 n cp K w)
  obtain ⟨V, hV⟩ : ∃ V, V = IntKind.u16.wrap (N : Int) := ⟨_, rfl⟩
  have hcv : ∀ W : World, (convert 28 90 (.int .u64 (N : Int))).run Try.prog W = .ok (.int .u16 V) W := fun W => by
    have := run_convert_int (P := Try.prog) (w := W) 28 90 .u64 (N : Int) (by rw [Try.underlying28]; rfl) Try.underlying90
    rw [this, show Try.prog.intKind 90 = .u16 from by kernel_rfl, hV]
  clear hV
  generalize hL : addL 8 N S A2 n cp K = L at *
  clear c4
  unfold addV
  rw [hL]
  clear hL
  go_enter Try.func10, Try.ntmps10
  go_wp2_with (first | (go_at_call 41; refine (eput_uint16 _ _).mono ?_; rintro e w1 ⟨rfl, rfl⟩))
  go_end0
  exact ⟨rfl, (Mod.refl _ _).alloc _⟩

set_option maxRecDepth 100000 in
set_option maxHeartbeats 1000000 in
theorem put0_fix9 {w : World} (N : Nat) (S : List UInt8) (A2 : Option Addr) (n cp : Nat) (K : List UInt8) :
    Calls Try.prog 10 #[.pointer none, addV 9 N S A2 n cp K] w fun e w' => e = .returned (.tuple #[]) ∧ Mod no w w' := by
  obtain ⟨c0, c1, c2, c3, c4⟩ := add_cells (addL_blk 9 N S A2 n cp K w)
  obtain ⟨V, hV⟩ : ∃ V, V = IntKind.i32.wrap (N : Int) := ⟨_, rfl⟩
  have hcv : ∀ W : World, (convert 28 21 (.int .u64 (N : Int))).run Try.prog W = .ok (.int .i32 V) W := fun W => by
    have := run_convert_int (P := Try.prog) (w := W) 28 21 .u64 (N : Int) (by rw [Try.underlying28]; rfl) Try.underlying21
    rw [this, show Try.prog.intKind 21 = .i32 from by kernel_rfl, hV]
  clear hV
  generalize hL : addL 9 N S A2 n cp K = L at *
  clear c4
  unfold addV
  rw [hL]
  clear hL
  go_enter Try.func10, Try.ntmps10
  go_wp2_with (first | (go_at_call 42; refine (eput_int32 _ _).mono ?_; rintro e w1 ⟨rfl, rfl⟩))
  go_end0
  exact ⟨rfl, (Mod.refl _ _).alloc _⟩

set_option maxRecDepth 100000 in
set_option maxHeartbeats 1000000 in
theorem put0_fix10 {w : World} (N : Nat) (S : List UInt8) (A2 : Option Addr) (n cp : Nat) (K : List UInt8) :
    Calls Try.prog 10 #[.pointer none, addV 10 N S A2 n cp K] w fun e w' => e = .returned (.tuple #[]) ∧ Mod no w w' := by
  obtain ⟨c0, c1, c2, c3, c4⟩ := add_cells (addL_blk 10 N S A2 n cp K w)
  obtain ⟨V, hV⟩ : ∃ V, V = IntKind.u32.wrap (N : Int) := ⟨_, rfl⟩
  have hcv : ∀ W : World, (convert 28 93 (.int .u64 (N : Int))).run Try.prog W = .ok (.int .u32 V) W := fun W => by
    have := run_convert_int (P := Try.prog) (w := W) 28 93 .u64 (N : Int) (by rw [Try.underlying28]; rfl) Try.underlying93
    rw [this, show Try.prog.intKind 93 = .u32 from by kernel_rfl, hV]
  clear hV
  generalize hL : addL 10 N S A2 n cp K = L at *
  clear c4
  unfold addV
  rw [hL]
  clear hL
  go_enter Try.func10, Try.ntmps10
  go_wp2_with (first | (go_at_call 43; refine (eput_uint32 _ _).mono ?_; rintro e w1 ⟨rfl, rfl⟩))
  go_end0
  exact ⟨rfl, (Mod.refl _ _).alloc _⟩

set_option maxRecDepth 100000 in
set_option maxHeartbeats 1000000 in
theorem put0_fix11 {w : World} (N : Nat) (S : List UInt8) (A2 : Option Addr) (n cp : Nat) (K : List UInt8) :
    Calls Try.prog 10 #[.pointer none, addV 11 N S A2 n cp K] w fun e w' => e = .returned (.tuple #[]) ∧ Mod no w w' := by
  obtain ⟨c0, c1, c2, c3, c4⟩ := add_cells (addL_blk 11 N S A2 n cp K w)
  obtain ⟨V, hV⟩ : ∃ V, V = IntKind.i64.wrap (N : Int) := ⟨_, rfl⟩
  have hcv : ∀ W : World, (convert 28 2 (.int .u64 (N : Int))).run Try.prog W = .ok (.int .i64 V) W := fun W => by
    have := run_convert_int (P := Try.prog) (w := W) 28 2 .u64 (N : Int) (by rw [Try.underlying28]; rfl) Try.underlying2
    rw [this, show Try.prog.intKind 2 = .i64 from by kernel_rfl, hV]
  clear hV
  generalize hL : addL 11 N S A2 n cp K = L at *
  clear c4
  unfold addV
  rw [hL]
  clear hL
  go_enter Try.func10, Try.ntmps10
  go_wp2_with (first | (go_at_call 44; refine (eput_int64 _ _).mono ?_; rintro e w1 ⟨rfl, rfl⟩))
  go_end0
  exact ⟨rfl, (Mod.refl _ _).alloc _⟩

set_option maxRecDepth 100000 in
set_option maxHeartbeats 1000000 in
theorem put0_fix12 {w : World} (N : Nat) (S : List UInt8) (A2 : Option Addr) (n cp : Nat) (K : List UInt8) :
    Calls Try.prog 10 #[.pointer none, addV 12 N S A2 n cp K] w fun e w' => e = .returned (.tuple #[]) ∧ Mod no w w' := by
  obtain ⟨c0, c1, c2, c3, c4⟩ := add_cells (addL_blk 12 N S A2 n cp K w)
  generalize hL : addL 12 N S A2 n cp K = L at *
  clear c4
  unfold addV
  rw [hL]
  clear hL
  go_enter Try.func10, Try.ntmps10
  go_wp2_with (first | (go_at_call 45; refine (eput_uint64 _ _).mono ?_; rintro e w1 ⟨rfl, rfl⟩))
  go_end0
  exact ⟨rfl, (Mod.refl _ _).alloc _⟩

set_option maxRecDepth 100000 in
set_option maxHeartbeats 1000000 in
theorem put0_none {w : World} (N : Nat) (S : List UInt8) (A2 : Option Addr) (n cp : Nat) (K : List UInt8) (kind : Int) (h1 : kind ≠ 1) (h2 : kind ≠ 2) (h3 : kind ≠ 3) (h4 : kind ≠ 4) (h5 : kind ≠ 5) (h6 : kind ≠ 6) (h7 : kind ≠ 7) (h8 : kind ≠ 8) (h9 : kind ≠ 9) (h10 : kind ≠ 10) (h11 : kind ≠ 11) (h12 : kind ≠ 12) (h13 : kind ≠ 13) :
    Calls Try.prog 10 #[.pointer none, addV kind N S A2 n cp K] w fun e w' => e = .returned (.tuple #[]) ∧ Mod no w w' := by
  obtain ⟨c0, c1, c2, c3, c4⟩ := add_cells (addL_blk kind N S A2 n cp K w)
  generalize hL : addL kind N S A2 n cp K = L at *
  clear c4
  unfold addV
  rw [hL]
  clear hL
  go_enter Try.func10, Try.ntmps10
  go_wp2_with fail
  go_end0
  exact ⟨rfl, (Mod.refl _ _).alloc _⟩

theorem put0_any {w : World} (kind : Int) (N : Nat) (S : List UInt8) (A2 : Option Addr) (n cp : Nat) (K : List UInt8) (hK : K.length = 32) :
    Calls Try.prog 10 #[.pointer none, addV kind N S A2 n cp K] w fun e w' => e = .returned (.tuple #[]) ∧ Mod no w w' := by
  by_cases h1 : kind = 1
  · subst h1; exact put0_var N S A2 n cp K
  by_cases h2 : kind = 2
  · subst h2; exact put0_text N S A2 n cp K
  by_cases h3 : kind = 3
  · subst h3; exact put0_raw N S A2 n cp K
  by_cases h4 : kind = 4
  · subst h4; exact put0_key N S A2 n cp K hK
  by_cases h5 : kind = 5
  · subst h5; exact put0_fix5 N S A2 n cp K
  by_cases h6 : kind = 6
  · subst h6; exact put0_fix6 N S A2 n cp K
  by_cases h7 : kind = 7
  · subst h7; exact put0_fix7 N S A2 n cp K
  by_cases h8 : kind = 8
  · subst h8; exact put0_fix8 N S A2 n cp K
  by_cases h9 : kind = 9
  · subst h9; exact put0_fix9 N S A2 n cp K
  by_cases h10 : kind = 10
  · subst h10; exact put0_fix10 N S A2 n cp K
  by_cases h11 : kind = 11
  · subst h11; exact put0_fix11 N S A2 n cp K
  by_cases h12 : kind = 12
  · subst h12; exact put0_fix12 N S A2 n cp K
  by_cases h13 : kind = 13
  · subst h13; exact put0_list N S A2 n cp K
  exact put0_none N S A2 n cp K kind h1 h2 h3 h4 h5 h6 h7 h8 h9 h10 h11 h12 h13

set_option maxRecDepth 100000 in
set_option maxHeartbeats 1000000 in
theorem take0_var {w : World} (most : Nat) (n : Int) :
    Calls Try.prog 25 #[.pointer none, takeV 1 most n] w fun e w' => e = .returned (gotV 0 []) ∧ Mod no w w' := by
  have MM := fun o1 o2 => Lib.hid (((Mod.refl no w).alloc o1).alloc o2)
  unfold takeV
  go_enter Try.func25, Try.ntmps25
  go_wp2_with (first | (go_at_call 29; refine (dvar_nil _ _).mono ?_; rintro e w1 ⟨rfl, rfl⟩))
  exact bodyPost_ret (results_cell_row (P := Try.prog) Try.results25 _ _ (w.heap.size + 1) _ #[Value.int IntKind.u64 0, Value.string { data := #[] }] (0, 0) _ rfl (Blk.new_at (n := w.heap.size + 1) _ _ _ (by simp)) Try.underlying66 rfl got_size) rfl ⟨rfl, (MM _ _).out⟩

set_option maxRecDepth 100000 in
set_option maxHeartbeats 1000000 in
theorem take0_text {w : World} (most : Nat) (n : Int) :
    Calls Try.prog 25 #[.pointer none, takeV 2 most n] w fun e w' => e = .returned (gotV 0 []) ∧ Mod no w w' := by
  have MM := fun o1 o2 => Lib.hid (((Mod.refl no w).alloc o1).alloc o2)
  unfold takeV
  go_enter Try.func25, Try.ntmps25
  go_wp2_with (first | (go_at_call 58; refine (dtext_nil _ _).mono ?_; rintro e w1 ⟨rfl, rfl⟩))
  exact bodyPost_ret (results_cell_row (P := Try.prog) Try.results25 _ _ (w.heap.size + 1) _ #[Value.int IntKind.u64 0, Value.string { data := #[] }] (0, 0) _ rfl (Blk.new_at (n := w.heap.size + 1) _ _ _ (by simp)) Try.underlying66 rfl got_size) rfl ⟨rfl, (MM _ _).out⟩

set_option maxRecDepth 100000 in
set_option maxHeartbeats 1000000 in
theorem take0_raw {w : World} (most : Nat) (n : Int) :
    Calls Try.prog 25 #[.pointer none, takeV 3 most n] w fun e w' => e = .returned (gotV 0 []) ∧ Mod no w w' := by
  have MM := fun o1 o2 => Lib.hid (((Mod.refl no w).alloc o1).alloc o2)
  unfold takeV
  go_enter Try.func25, Try.ntmps25
  go_wp2_with (first
    | (go_at_call 19; refine (draw_nil _ _).mono ?_; rintro e w1 ⟨rfl, rfl⟩)
    | (go_at_call 59; refine (spoilt_any (base := w.heap.size + 2) (X := []) (A := none) (c := 0) ⟨rfl, .inl ⟨rfl, rfl⟩⟩ (by simp) (by simp)).mono ?_
       rintro e w2 ⟨rfl, M2⟩
       have hb4 : Blk w2 (w.heap.size + 1) 66 #[.int .u64 0, .string ⟨#[]⟩] := (Blk.new_at (n := w.heap.size + 1) (w.alloc _) _ _ (by simp)).mod M2 (fun c => by have := c.1; omega)
       have c0 := hb4.cell 0
       have c1 := hb4.cell 1
       have f0 := hb4.free 0
       have f1 := hb4.free 1
       simp at c0 c1
       have HM2 := Lib.hid M2
       clear M2))
  refine got_done hb4 _ Try.results25 _ rfl rfl _ ⟨rfl, ?_⟩
  have m2 : Mod no w w2 := (((Mod.refl no w).alloc _).alloc _).trans HM2.out (fun k hk c => by have := c.1; omega)
  exact (m2.set (p := ⟨w.heap.size + 1, 0, none⟩) (fun c => absurd (show w.heap.size + 1 < w.heap.size from c) (by omega)) _).set (p := ⟨w.heap.size + 1, 1, none⟩) (fun c => absurd (show w.heap.size + 1 < w.heap.size from c) (by omega)) _

set_option maxRecDepth 100000 in
set_option maxHeartbeats 1000000 in
theorem take0_list {w : World} (most : Nat) (n : Int) :
    Calls Try.prog 25 #[.pointer none, takeV 13 most n] w fun e w' => e = .returned (gotV 0 []) ∧ Mod no w w' := by
  have MM := fun o1 o2 => Lib.hid (((Mod.refl no w).alloc o1).alloc o2)
  unfold takeV
  go_enter Try.func25, Try.ntmps25
  go_wp2_with (first
    | (go_at_call 69; refine (each8_nil _ _ _).mono ?_; rintro e w1 ⟨rfl, rfl⟩)
    | (go_at_call 59; refine (spoilt_any (base := w.heap.size + 2) (X := []) (A := none) (c := 0) ⟨rfl, .inl ⟨rfl, rfl⟩⟩ (by simp) (by simp)).mono ?_
       rintro e w2 ⟨rfl, M2⟩
       have hb4 : Blk w2 (w.heap.size + 1) 66 #[.int .u64 0, .string ⟨#[]⟩] := (Blk.new_at (n := w.heap.size + 1) (w.alloc _) _ _ (by simp)).mod M2 (fun c => by have := c.1; omega)
       have c0 := hb4.cell 0
       have c1 := hb4.cell 1
       have f0 := hb4.free 0
       have f1 := hb4.free 1
       simp at c0 c1
       have HM2 := Lib.hid M2
       clear M2))
  refine got_done hb4 _ Try.results25 _ rfl rfl _ ⟨rfl, ?_⟩
  have m2 : Mod no w w2 := (((Mod.refl no w).alloc _).alloc _).trans HM2.out (fun k hk c => by have := c.1; omega)
  exact (m2.set (p := ⟨w.heap.size + 1, 0, none⟩) (fun c => absurd (show w.heap.size + 1 < w.heap.size from c) (by omega)) _).set (p := ⟨w.heap.size + 1, 1, none⟩) (fun c => absurd (show w.heap.size + 1 < w.heap.size from c) (by omega)) _

set_option maxRecDepth 100000 in
set_option maxHeartbeats 1000000 in
theorem take0_key {w : World} (most : Nat) (n : Int) :
    Calls Try.prog 25 #[.pointer none, takeV 4 most n] w fun e w' => e = .returned (gotV 0 (List.replicate 32 0)) ∧ Mod no w w' := by
  have MM := fun o1 o2 => Lib.hid (((Mod.refl no w).alloc o1).alloc o2)
  unfold takeV
  go_enter Try.func25, Try.ntmps25
  go_wp2_with fail
  refine (dkey_nil _).mono ?_
  rintro e w1 ⟨rfl, M1⟩
  have hb4 : Blk w1 (w.heap.size + 1) 66 #[.int .u64 0, .string ⟨#[]⟩] := (Blk.new_at (n := w.heap.size + 1) (w.alloc _) _ _ (by simp)).mod M1 (fun c => c)
  have HM := Lib.hid M1
  have hkl : (List.replicate 32 (0 : UInt8)).length = 32 := by simp
  clear M1
  go_wp2_with (
     with_reducible show wpList _ _ _ _ _ _
     refine wpList_store_key rfl (List.replicate 32 0) hkl w1 (.tmp 5) (.tmp 33) rfl rfl rfl ?_
     intro W5 hr5 M5
     have hcv := conv_range hr5 32 32 (by rw [hkl]) (by intro e; rw [e] at hkl; simp at hkl)
     have HM5 := Lib.hid M5
     have hb5 := hb4.mod M5 (fun c => c)
     have c0 := hb5.cell 0
     have c1 := hb5.cell 1
     have f0 := hb5.free 0
     have f1 := hb5.free 1
     simp at c0 c1
     clear hr5 M5)
  refine got_done hb5 _ Try.results25 _ rfl rfl _ ⟨rfl, ?_⟩
  have m2 : Mod no w W5 := ((((Mod.refl no w).alloc _).alloc _).and_then HM.out).and_then HM5.out
  exact (m2.set (p := ⟨w.heap.size + 1, 0, none⟩) (fun c => absurd (show w.heap.size + 1 < w.heap.size from c) (by omega)) _).set (p := ⟨w.heap.size + 1, 1, none⟩) (fun c => absurd (show w.heap.size + 1 < w.heap.size from c) (by omega)) _

set_option maxRecDepth 100000 in
set_option maxHeartbeats 1000000 in
theorem take0_fix5 {w : World} (most : Nat) (n : Int) :
    Calls Try.prog 25 #[.pointer none, takeV 5 most n] w fun e w' => e = .returned (gotV 0 []) ∧ Mod no w w' := by
  have hcv : ∀ W : World, (convert 85 28 (.int .i8 0)).run Try.prog W = .ok (.int .u64 0) W := fun W => by
    have := run_convert_int (P := Try.prog) (w := W) 85 28 .i8 0 (by rw [Try.underlying85]; rfl) Try.underlying28
    rw [this, show Try.prog.intKind 28 = .u64 from by kernel_rfl]; rfl
  have MM := fun o1 o2 => Lib.hid (((Mod.refl no w).alloc o1).alloc o2)
  unfold takeV
  go_enter Try.func25, Try.ntmps25
  go_wp2_with (first | (go_at_call 61; refine (dtake_int8 _).mono ?_; rintro e w1 ⟨rfl, rfl⟩))
  exact bodyPost_ret (results_cell_row (P := Try.prog) Try.results25 _ _ (w.heap.size + 1) _ #[Value.int IntKind.u64 0, Value.string { data := #[] }] (0, 0) _ rfl (Blk.new_at (n := w.heap.size + 1) _ _ _ (by simp)) Try.underlying66 rfl got_size) rfl ⟨rfl, (MM _ _).out⟩

set_option maxRecDepth 100000 in
set_option maxHeartbeats 1000000 in
theorem take0_fix6 {w : World} (most : Nat) (n : Int) :
    Calls Try.prog 25 #[.pointer none, takeV 6 most n] w fun e w' => e = .returned (gotV 0 []) ∧ Mod no w w' := by
  have hcv : ∀ W : World, (convert 5 28 (.int .u8 0)).run Try.prog W = .ok (.int .u64 0) W := fun W => by
    have := run_convert_int (P := Try.prog) (w := W) 5 28 .u8 0 (by rw [Try.underlying5]; rfl) Try.underlying28
    rw [this, show Try.prog.intKind 28 = .u64 from by kernel_rfl]; rfl
  have MM := fun o1 o2 => Lib.hid (((Mod.refl no w).alloc o1).alloc o2)
  unfold takeV
  go_enter Try.func25, Try.ntmps25
  go_wp2_with (first | (go_at_call 62; refine (dtake_uint8 _).mono ?_; rintro e w1 ⟨rfl, rfl⟩))
  exact bodyPost_ret (results_cell_row (P := Try.prog) Try.results25 _ _ (w.heap.size + 1) _ #[Value.int IntKind.u64 0, Value.string { data := #[] }] (0, 0) _ rfl (Blk.new_at (n := w.heap.size + 1) _ _ _ (by simp)) Try.underlying66 rfl got_size) rfl ⟨rfl, (MM _ _).out⟩

set_option maxRecDepth 100000 in
set_option maxHeartbeats 1000000 in
theorem take0_fix7 {w : World} (most : Nat) (n : Int) :
    Calls Try.prog 25 #[.pointer none, takeV 7 most n] w fun e w' => e = .returned (gotV 0 []) ∧ Mod no w w' := by
  have hcv : ∀ W : World, (convert 88 28 (.int .i16 0)).run Try.prog W = .ok (.int .u64 0) W := fun W => by
    have := run_convert_int (P := Try.prog) (w := W) 88 28 .i16 0 (by rw [Try.underlying88]; rfl) Try.underlying28
    rw [this, show Try.prog.intKind 28 = .u64 from by kernel_rfl]; rfl
  have MM := fun o1 o2 => Lib.hid (((Mod.refl no w).alloc o1).alloc o2)
  unfold takeV
  go_enter Try.func25, Try.ntmps25
  go_wp2_with (first | (go_at_call 63; refine (dtake_int16 _).mono ?_; rintro e w1 ⟨rfl, rfl⟩))
  exact bodyPost_ret (results_cell_row (P := Try.prog) Try.results25 _ _ (w.heap.size + 1) _ #[Value.int IntKind.u64 0, Value.string { data := #[] }] (0, 0) _ rfl (Blk.new_at (n := w.heap.size + 1) _ _ _ (by simp)) Try.underlying66 rfl got_size) rfl ⟨rfl, (MM _ _).out⟩

set_option maxRecDepth 100000 in
set_option maxHeartbeats 1000000 in
theorem take0_fix8 {w : World} (most : Nat) (n : Int) :
    Calls Try.prog 25 #[.pointer none, takeV 8 most n] w fun e w' => e = .returned (gotV 0 []) ∧ Mod no w w' := by
  have hcv : ∀ W : World, (convert 90 28 (.int .u16 0)).run Try.prog W = .ok (.int .u64 0) W := fun W => by
    have := run_convert_int (P := Try.prog) (w := W) 90 28 .u16 0 (by rw [Try.underlying90]; rfl) Try.underlying28
    rw [this, show Try.prog.intKind 28 = .u64 from by kernel_rfl]; rfl
  have MM := fun o1 o2 => Lib.hid (((Mod.refl no w).alloc o1).alloc o2)
  unfold takeV
  go_enter Try.func25, Try.ntmps25
  go_wp2_with (first | (go_at_call 64; refine (dtake_uint16 _).mono ?_; rintro e w1 ⟨rfl, rfl⟩))
  exact bodyPost_ret (results_cell_row (P := Try.prog) Try.results25 _ _ (w.heap.size + 1) _ #[Value.int IntKind.u64 0, Value.string { data := #[] }] (0, 0) _ rfl (Blk.new_at (n := w.heap.size + 1) _ _ _ (by simp)) Try.underlying66 rfl got_size) rfl ⟨rfl, (MM _ _).out⟩

set_option maxRecDepth 100000 in
set_option maxHeartbeats 1000000 in
theorem take0_fix9 {w : World} (most : Nat) (n : Int) :
    Calls Try.prog 25 #[.pointer none, takeV 9 most n] w fun e w' => e = .returned (gotV 0 []) ∧ Mod no w w' := by
  have hcv : ∀ W : World, (convert 21 28 (.int .i32 0)).run Try.prog W = .ok (.int .u64 0) W := fun W => by
    have := run_convert_int (P := Try.prog) (w := W) 21 28 .i32 0 (by rw [Try.underlying21]; rfl) Try.underlying28
    rw [this, show Try.prog.intKind 28 = .u64 from by kernel_rfl]; rfl
  have MM := fun o1 o2 => Lib.hid (((Mod.refl no w).alloc o1).alloc o2)
  unfold takeV
  go_enter Try.func25, Try.ntmps25
  go_wp2_with (first | (go_at_call 65; refine (dtake_int32 _).mono ?_; rintro e w1 ⟨rfl, rfl⟩))
  exact bodyPost_ret (results_cell_row (P := Try.prog) Try.results25 _ _ (w.heap.size + 1) _ #[Value.int IntKind.u64 0, Value.string { data := #[] }] (0, 0) _ rfl (Blk.new_at (n := w.heap.size + 1) _ _ _ (by simp)) Try.underlying66 rfl got_size) rfl ⟨rfl, (MM _ _).out⟩

set_option maxRecDepth 100000 in
set_option maxHeartbeats 1000000 in
theorem take0_fix10 {w : World} (most : Nat) (n : Int) :
    Calls Try.prog 25 #[.pointer none, takeV 10 most n] w fun e w' => e = .returned (gotV 0 []) ∧ Mod no w w' := by
  have hcv : ∀ W : World, (convert 93 28 (.int .u32 0)).run Try.prog W = .ok (.int .u64 0) W := fun W => by
    have := run_convert_int (P := Try.prog) (w := W) 93 28 .u32 0 (by rw [Try.underlying93]; rfl) Try.underlying28
    rw [this, show Try.prog.intKind 28 = .u64 from by kernel_rfl]; rfl
  have MM := fun o1 o2 => Lib.hid (((Mod.refl no w).alloc o1).alloc o2)
  unfold takeV
  go_enter Try.func25, Try.ntmps25
  go_wp2_with (first | (go_at_call 66; refine (dtake_uint32 _).mono ?_; rintro e w1 ⟨rfl, rfl⟩))
  exact bodyPost_ret (results_cell_row (P := Try.prog) Try.results25 _ _ (w.heap.size + 1) _ #[Value.int IntKind.u64 0, Value.string { data := #[] }] (0, 0) _ rfl (Blk.new_at (n := w.heap.size + 1) _ _ _ (by simp)) Try.underlying66 rfl got_size) rfl ⟨rfl, (MM _ _).out⟩

set_option maxRecDepth 100000 in
set_option maxHeartbeats 1000000 in
theorem take0_fix11 {w : World} (most : Nat) (n : Int) :
    Calls Try.prog 25 #[.pointer none, takeV 11 most n] w fun e w' => e = .returned (gotV 0 []) ∧ Mod no w w' := by
  have hcv : ∀ W : World, (convert 2 28 (.int .i64 0)).run Try.prog W = .ok (.int .u64 0) W := fun W => by
    have := run_convert_int (P := Try.prog) (w := W) 2 28 .i64 0 (by rw [Try.underlying2]; rfl) Try.underlying28
    rw [this, show Try.prog.intKind 28 = .u64 from by kernel_rfl]; rfl
  have MM := fun o1 o2 => Lib.hid (((Mod.refl no w).alloc o1).alloc o2)
  unfold takeV
  go_enter Try.func25, Try.ntmps25
  go_wp2_with (first | (go_at_call 67; refine (dtake_int64 _).mono ?_; rintro e w1 ⟨rfl, rfl⟩))
  exact bodyPost_ret (results_cell_row (P := Try.prog) Try.results25 _ _ (w.heap.size + 1) _ #[Value.int IntKind.u64 0, Value.string { data := #[] }] (0, 0) _ rfl (Blk.new_at (n := w.heap.size + 1) _ _ _ (by simp)) Try.underlying66 rfl got_size) rfl ⟨rfl, (MM _ _).out⟩

set_option maxRecDepth 100000 in
set_option maxHeartbeats 1000000 in
theorem take0_fix12 {w : World} (most : Nat) (n : Int) :
    Calls Try.prog 25 #[.pointer none, takeV 12 most n] w fun e w' => e = .returned (gotV 0 []) ∧ Mod no w w' := by
  have MM := fun o1 o2 => Lib.hid (((Mod.refl no w).alloc o1).alloc o2)
  unfold takeV
  go_enter Try.func25, Try.ntmps25
  go_wp2_with (first | (go_at_call 68; refine (dtake_uint64 _).mono ?_; rintro e w1 ⟨rfl, rfl⟩))
  exact bodyPost_ret (results_cell_row (P := Try.prog) Try.results25 _ _ (w.heap.size + 1) _ #[Value.int IntKind.u64 0, Value.string { data := #[] }] (0, 0) _ rfl (Blk.new_at (n := w.heap.size + 1) _ _ _ (by simp)) Try.underlying66 rfl got_size) rfl ⟨rfl, (MM _ _).out⟩

set_option maxRecDepth 100000 in
set_option maxHeartbeats 1000000 in
theorem take0_none {w : World} (most : Nat) (n : Int) (kind : Int) (h1 : kind ≠ 1) (h2 : kind ≠ 2) (h3 : kind ≠ 3) (h4 : kind ≠ 4) (h5 : kind ≠ 5) (h6 : kind ≠ 6) (h7 : kind ≠ 7) (h8 : kind ≠ 8) (h9 : kind ≠ 9) (h10 : kind ≠ 10) (h11 : kind ≠ 11) (h12 : kind ≠ 12) (h13 : kind ≠ 13) :
    Calls Try.prog 25 #[.pointer none, takeV kind most n] w fun e w' => e = .returned (gotV 0 []) ∧ Mod no w w' := by
  have MM := fun o1 o2 => Lib.hid (((Mod.refl no w).alloc o1).alloc o2)
  unfold takeV
  go_enter Try.func25, Try.ntmps25
  go_wp2_with fail
  exact bodyPost_ret (results_cell_row (P := Try.prog) Try.results25 _ _ (w.heap.size + 1) _ #[Value.int IntKind.u64 0, Value.string { data := #[] }] (0, 0) _ rfl (Blk.new_at (n := w.heap.size + 1) _ _ _ (by simp)) Try.underlying66 rfl got_size) rfl ⟨rfl, (MM _ _).out⟩

theorem take0_any {w : World} (kind : Int) (most : Nat) (n : Int) :
    Calls Try.prog 25 #[.pointer none, takeV kind most n] w fun e w' => e = .returned (gotV 0 (if kind = 4 then List.replicate 32 0 else [])) ∧ Mod no w w' := by
  by_cases h1 : kind = 1
  · subst h1; exact take0_var most n
  by_cases h2 : kind = 2
  · subst h2; exact take0_text most n
  by_cases h3 : kind = 3
  · subst h3; exact take0_raw most n
  by_cases h4 : kind = 4
  · subst h4; exact take0_key most n
  by_cases h5 : kind = 5
  · subst h5; exact take0_fix5 most n
  by_cases h6 : kind = 6
  · subst h6; exact take0_fix6 most n
  by_cases h7 : kind = 7
  · subst h7; exact take0_fix7 most n
  by_cases h8 : kind = 8
  · subst h8; exact take0_fix8 most n
  by_cases h9 : kind = 9
  · subst h9; exact take0_fix9 most n
  by_cases h10 : kind = 10
  · subst h10; exact take0_fix10 most n
  by_cases h11 : kind = 11
  · subst h11; exact take0_fix11 most n
  by_cases h12 : kind = 12
  · subst h12; exact take0_fix12 most n
  by_cases h13 : kind = 13
  · subst h13; exact take0_list most n
  rw [if_neg h4]
  exact take0_none most n kind h1 h2 h3 h4 h5 h6 h7 h8 h9 h10 h11 h12 h13

end Go.Proofs.Ytpfkcejndjnbhaa.NI
