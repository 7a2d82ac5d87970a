/- No vault: dir's functions answer ErrNil (printed by dirnil.py). -/
import Derived.Test.YtaflodfngcgmbaaGreatDoorChecked
import Derived.Test.YtaflodfngcgmbaaGreatDoorMem
import Derived.WalkKit
import Derived.WalkSpells
import Derived.Lib.Hide
import Derived.Deep.MidRow
import Derived.Laws.ResultCell
namespace Go.Proofs.YtaflodfngcgmbaaGreatDoor.DN
open Go.RowKit Mem
set_option linter.unusedVariables false
set_option linter.unusedSimpArgs false

theorem mod_sets {S : Nat → Prop} {b : Nat} {w : World} (hb : b < w.heap.size → S b) : ∀ (vs : List Value) (o : Nat) (w' : World), Mod S w w' → Mod S w (w'.setCells b o vs)
  | [], _, _, h => h
  | v :: vs, o, w', h => mod_sets hb vs (o + 1) (w'.setCell ⟨b, o, none⟩ v) (h.set (p := ⟨b, o, none⟩) hb v)
theorem blk_sets {t : TypeId} (b : Nat) : ∀ (vs : List Value) (o : Nat) (Z : List Value) (w : World), Blk w b t Z.toArray → o + vs.length ≤ Z.length → Blk (w.setCells b o vs) b t (Z.take o ++ vs ++ Z.drop (o + vs.length)).toArray
  | [], o, Z, w, h, hz => by
    simp only [List.append_nil, List.length_nil, Nat.add_zero, List.take_append_drop]
    exact h
  | v :: vs, o, Z, w, h, hz => by
    have h1 := h.put o v
    rw [List.setIfInBounds_toArray] at h1
    have ih := blk_sets b vs (o + 1) (Z.set o v) (w.setCell ⟨b, o, none⟩ v) h1 (by simp at hz ⊢; omega)
    have ho : o < Z.length := by simp at hz; omega
    have e : (Z.set o v).take (o + 1) ++ vs ++ (Z.set o v).drop (o + 1 + vs.length) = Z.take o ++ (v :: vs) ++ Z.drop (o + (v :: vs).length) := by
      rw [List.take_add_one, List.take_set_of_le (by omega), List.getElem?_set_self ho, List.drop_set_of_lt (by omega)]
      simp [Nat.add_assoc, Nat.add_comm 1]
    rw [e] at ih
    exact ih
/-- A whole value stored into a block that is a new one. -/
theorem store_new {w0 w : World} {b : Nat} {t : TypeId} {Z C : Array Value} (h : Blk w b t Z) (hs : C.size = Z.size) (hm : Mod no w0 w) (hb : w0.heap.size ≤ b) : w.there b 0 C.size ∧ Blk (w.setCells b 0 C.toList) b t C ∧ Mod no w0 (w.setCells b 0 C.toList) := by
  refine ⟨fun j hj => ⟨?_, h.free _⟩, ?_, mod_sets (fun c => absurd c (by omega)) _ _ _ hm⟩
  · rw [h.cell, Nat.zero_add, Array.getElem?_eq_getElem (by omega)]; rfl
  · have hZ : Blk w b t Z.toList.toArray := by simpa using h
    have := blk_sets b C.toList 0 Z.toList w hZ (by simp; omega)
    have e : Z.toList.drop (0 + C.toList.length) = [] := List.drop_eq_nil_of_le (by simp; omega)
    rw [e] at this
    simpa using this
theorem range_of {w : World} {b : Nat} {t : TypeId} {C : Array Value} (h : Blk w b t C) : w.rangeAt b 0 C.toList := fun j v hv => by
  rw [h.cell, Nat.zero_add]; simpa using hv
theorem ret_cell {P : Program} {fn : Func} {p u : Tmp} {ty : TypeId} (h : fn.results = #[.cell p ty, .tmp u]) (tmps : Array Value) (w : World) (b : Nat) (C : Array Value) (d : TypeDesc) (t : TypeId) (hp : tmps.getD p undef = .pointer (some ⟨b, 0, none⟩)) (hc : Blk w b t C)
    (hu : P.underlying ty = some d) (hd : d.isRow = true) (hi : (P.info? ty).map (·.size) = some C.size) : (results fn tmps).run P w = .ok (.tuple #[.agg C, tmps.getD u undef]) w := by
  rw [results_cell_tmp h, hp]
  have := run_loadVar_mid (P := P) w b 0 ty C.toList d (range_of hc) hu hd (by simpa using hi)
  simp only [asAddr, Sem.run_pure, Result.andThen_ok, this]
theorem item_info : (Tryz.prog.info? 27).map (·.size) = some 35 := by kernel_rfl
theorem key_info : (Tryz.prog.info? 25).map (·.size) = some 32 := by kernel_rfl
/-- Zero values. -/
def zI : Array Value := #[.string ⟨#[]⟩, .int .u8 0, .int .u64 0, .int .u8 0, .int .u8 0, .int .u8 0, .int .u8 0, .int .u8 0, .int .u8 0, .int .u8 0, .int .u8 0, .int .u8 0, .int .u8 0, .int .u8 0, .int .u8 0, .int .u8 0, .int .u8 0, .int .u8 0, .int .u8 0, .int .u8 0, .int .u8 0, .int .u8 0, .int .u8 0, .int .u8 0, .int .u8 0, .int .u8 0, .int .u8 0, .int .u8 0, .int .u8 0, .int .u8 0, .int .u8 0, .int .u8 0, .int .u8 0, .int .u8 0, .int .u8 0]
def zK : Array Value := #[.int .u8 0, .int .u8 0, .int .u8 0, .int .u8 0, .int .u8 0, .int .u8 0, .int .u8 0, .int .u8 0, .int .u8 0, .int .u8 0, .int .u8 0, .int .u8 0, .int .u8 0, .int .u8 0, .int .u8 0, .int .u8 0, .int .u8 0, .int .u8 0, .int .u8 0, .int .u8 0, .int .u8 0, .int .u8 0, .int .u8 0, .int .u8 0, .int .u8 0, .int .u8 0, .int .u8 0, .int .u8 0, .int .u8 0, .int .u8 0, .int .u8 0, .int .u8 0]
theorem zI_one : zI.all (·.oneCell') = true := by decide +kernel
theorem zK_one : zK.all (·.oneCell') = true := by decide +kernel

theorem begun_n {w : World} {s : Value} : Calls Tryz.prog 10 #[.pointer none, s] w fun e w' => e = .returned (.tuple #[.slice none 0 0, .int .i64 1]) ∧ w = w' := by
  go_enter Tryz.func10, Tryz.ntmps10
  go_wp2_with fail
  go_ret2
  exact ⟨rfl, rfl⟩
theorem some_n {w : World} {s : Value} : Calls Tryz.prog 13 #[.pointer none, s] w fun e w' => e = .returned (.tuple #[.slice none 0 0, .int .i64 1]) ∧ w = w' := by
  go_enter Tryz.func13, Tryz.ntmps13
  go_wp2_with (go_at_call 10; refine begun_n.mono ?_; rintro e w2 ⟨rfl, rfl⟩)
  go_ret2
  exact ⟨rfl, rfl⟩
set_option maxRecDepth 100000 in
set_option maxHeartbeats 1000000 in
theorem find_n {w : World} {s n : Value} {k : List Value} : Calls Tryz.prog 4 #[.pointer none, n, .agg k.toArray, s] w fun e w' => e = .returned (.tuple #[.agg zI, .int .i64 1]) ∧ Mod no w w' := by
  have hm : Mod no w ((w.alloc (.cells k.toArray 25)).alloc (.cells #[.string ⟨#[]⟩, .int .u8 0, .int .u64 0, .int .u8 0, .int .u8 0, .int .u8 0, .int .u8 0, .int .u8 0, .int .u8 0, .int .u8 0, .int .u8 0, .int .u8 0, .int .u8 0, .int .u8 0, .int .u8 0, .int .u8 0, .int .u8 0, .int .u8 0, .int .u8 0, .int .u8 0, .int .u8 0, .int .u8 0, .int .u8 0, .int .u8 0, .int .u8 0, .int .u8 0, .int .u8 0, .int .u8 0, .int .u8 0, .int .u8 0, .int .u8 0, .int .u8 0, .int .u8 0, .int .u8 0, .int .u8 0] 27)) := ((Mod.refl no w).alloc _).alloc _
  have hb : Blk ((w.alloc (.cells k.toArray 25)).alloc (.cells #[.string ⟨#[]⟩, .int .u8 0, .int .u64 0, .int .u8 0, .int .u8 0, .int .u8 0, .int .u8 0, .int .u8 0, .int .u8 0, .int .u8 0, .int .u8 0, .int .u8 0, .int .u8 0, .int .u8 0, .int .u8 0, .int .u8 0, .int .u8 0, .int .u8 0, .int .u8 0, .int .u8 0, .int .u8 0, .int .u8 0, .int .u8 0, .int .u8 0, .int .u8 0, .int .u8 0, .int .u8 0, .int .u8 0, .int .u8 0, .int .u8 0, .int .u8 0, .int .u8 0, .int .u8 0, .int .u8 0, .int .u8 0] 27)) (w.heap.size + 1) 27 zI := Blk.new_at _ _ _ (by simp)
  obtain ⟨t1, t2, t3⟩ := store_new (C := zI) hb rfl hm (by omega)
  have H1 := Lib.hid (And.intro t1 (And.intro t2 t3))
  clear t1 t2 t3 hb hm
  go_enter Tryz.func4, Tryz.ntmps4
  go_wp2_with (first | (go_at_call 10; refine begun_n.mono ?_; rintro e w2 ⟨rfl, rfl⟩) | (refine wpList_store_mid rfl 27 (.tmp 8) (.tmp 20) rfl (w.heap.size + 1) 0 zI rfl rfl H1.out.1 item_info zI_one ?_; generalize ((w.alloc (.cells k.toArray 25)).alloc (.cells #[.string ⟨#[]⟩, .int .u8 0, .int .u64 0, .int .u8 0, .int .u8 0, .int .u8 0, .int .u8 0, .int .u8 0, .int .u8 0, .int .u8 0, .int .u8 0, .int .u8 0, .int .u8 0, .int .u8 0, .int .u8 0, .int .u8 0, .int .u8 0, .int .u8 0, .int .u8 0, .int .u8 0, .int .u8 0, .int .u8 0, .int .u8 0, .int .u8 0, .int .u8 0, .int .u8 0, .int .u8 0, .int .u8 0, .int .u8 0, .int .u8 0, .int .u8 0, .int .u8 0, .int .u8 0, .int .u8 0, .int .u8 0] 27)).setCells (w.heap.size + 1) 0 zI.toList = w3 at *; have H2 := Lib.hid H1.out.2; clear H1))
  exact bodyPost_ret (v := .tuple #[.agg zI, .int .i64 1]) (ret_cell (p := 8) (u := 9) (ty := 27) rfl _ _ (w.heap.size + 1) zI _ 27 rfl H2.out.1 Tryz.underlying27 rfl item_info) rfl ⟨rfl, H2.out.2⟩
set_option maxRecDepth 100000 in
set_option maxHeartbeats 1000000 in
theorem remove_n {w : World} {s n : Value} {k : List Value} : Calls Tryz.prog 7 #[.pointer none, n, .agg k.toArray, s] w fun e w' => e = .returned (.tuple #[.agg zK, .int .i64 1]) ∧ Mod no w w' := by
  have hm : Mod no w ((w.alloc (.cells k.toArray 25)).alloc (.cells #[.int .u8 0, .int .u8 0, .int .u8 0, .int .u8 0, .int .u8 0, .int .u8 0, .int .u8 0, .int .u8 0, .int .u8 0, .int .u8 0, .int .u8 0, .int .u8 0, .int .u8 0, .int .u8 0, .int .u8 0, .int .u8 0, .int .u8 0, .int .u8 0, .int .u8 0, .int .u8 0, .int .u8 0, .int .u8 0, .int .u8 0, .int .u8 0, .int .u8 0, .int .u8 0, .int .u8 0, .int .u8 0, .int .u8 0, .int .u8 0, .int .u8 0, .int .u8 0] 25)) := ((Mod.refl no w).alloc _).alloc _
  have hb : Blk ((w.alloc (.cells k.toArray 25)).alloc (.cells #[.int .u8 0, .int .u8 0, .int .u8 0, .int .u8 0, .int .u8 0, .int .u8 0, .int .u8 0, .int .u8 0, .int .u8 0, .int .u8 0, .int .u8 0, .int .u8 0, .int .u8 0, .int .u8 0, .int .u8 0, .int .u8 0, .int .u8 0, .int .u8 0, .int .u8 0, .int .u8 0, .int .u8 0, .int .u8 0, .int .u8 0, .int .u8 0, .int .u8 0, .int .u8 0, .int .u8 0, .int .u8 0, .int .u8 0, .int .u8 0, .int .u8 0, .int .u8 0] 25)) (w.heap.size + 1) 25 zK := Blk.new_at _ _ _ (by simp)
  obtain ⟨t1, t2, t3⟩ := store_new (C := zK) hb rfl hm (by omega)
  have H1 := Lib.hid (And.intro t1 (And.intro t2 t3))
  clear t1 t2 t3 hb hm
  go_enter Tryz.func7, Tryz.ntmps7
  go_wp2_with (first | (go_at_call 13; refine some_n.mono ?_; rintro e w2 ⟨rfl, rfl⟩) | (refine wpList_store_mid rfl 25 (.tmp 8) (.tmp 20) rfl (w.heap.size + 1) 0 zK rfl rfl H1.out.1 key_info zK_one ?_; generalize ((w.alloc (.cells k.toArray 25)).alloc (.cells #[.int .u8 0, .int .u8 0, .int .u8 0, .int .u8 0, .int .u8 0, .int .u8 0, .int .u8 0, .int .u8 0, .int .u8 0, .int .u8 0, .int .u8 0, .int .u8 0, .int .u8 0, .int .u8 0, .int .u8 0, .int .u8 0, .int .u8 0, .int .u8 0, .int .u8 0, .int .u8 0, .int .u8 0, .int .u8 0, .int .u8 0, .int .u8 0, .int .u8 0, .int .u8 0, .int .u8 0, .int .u8 0, .int .u8 0, .int .u8 0, .int .u8 0, .int .u8 0] 25)).setCells (w.heap.size + 1) 0 zK.toList = w3 at *; have H2 := Lib.hid H1.out.2; clear H1))
  exact bodyPost_ret (v := .tuple #[.agg zK, .int .i64 1]) (ret_cell (p := 8) (u := 9) (ty := 25) rfl _ _ (w.heap.size + 1) zK _ 25 rfl H2.out.1 Tryz.underlying25 rfl key_info) rfl ⟨rfl, H2.out.2⟩
set_option maxRecDepth 100000 in
set_option maxHeartbeats 1000000 in
theorem set_n {w : World} {s n : Value} {k x : List Value} : Calls Tryz.prog 6 #[.pointer none, n, .agg k.toArray, s, .agg x.toArray] w fun e w' => e = .returned (.tuple #[.agg zK, .int .i64 1]) ∧ Mod no w w' := by
  have hm : Mod no w (((w.alloc (.cells k.toArray 25)).alloc (.cells x.toArray 27)).alloc (.cells #[.int .u8 0, .int .u8 0, .int .u8 0, .int .u8 0, .int .u8 0, .int .u8 0, .int .u8 0, .int .u8 0, .int .u8 0, .int .u8 0, .int .u8 0, .int .u8 0, .int .u8 0, .int .u8 0, .int .u8 0, .int .u8 0, .int .u8 0, .int .u8 0, .int .u8 0, .int .u8 0, .int .u8 0, .int .u8 0, .int .u8 0, .int .u8 0, .int .u8 0, .int .u8 0, .int .u8 0, .int .u8 0, .int .u8 0, .int .u8 0, .int .u8 0, .int .u8 0] 25)) := (((Mod.refl no w).alloc _).alloc _).alloc _
  have hb : Blk (((w.alloc (.cells k.toArray 25)).alloc (.cells x.toArray 27)).alloc (.cells #[.int .u8 0, .int .u8 0, .int .u8 0, .int .u8 0, .int .u8 0, .int .u8 0, .int .u8 0, .int .u8 0, .int .u8 0, .int .u8 0, .int .u8 0, .int .u8 0, .int .u8 0, .int .u8 0, .int .u8 0, .int .u8 0, .int .u8 0, .int .u8 0, .int .u8 0, .int .u8 0, .int .u8 0, .int .u8 0, .int .u8 0, .int .u8 0, .int .u8 0, .int .u8 0, .int .u8 0, .int .u8 0, .int .u8 0, .int .u8 0, .int .u8 0, .int .u8 0] 25)) (w.heap.size + 1 + 1) 25 zK := Blk.new_at _ _ _ (by simp)
  obtain ⟨t1, t2, t3⟩ := store_new (C := zK) hb rfl hm (by omega)
  have H1 := Lib.hid (And.intro t1 (And.intro t2 t3))
  clear t1 t2 t3 hb hm
  go_enter Tryz.func6, Tryz.ntmps6
  go_wp2_with (first | (go_at_call 13; refine some_n.mono ?_; rintro e w2 ⟨rfl, rfl⟩) | (refine wpList_store_mid rfl 25 (.tmp 10) (.tmp 22) rfl (w.heap.size + 1 + 1) 0 zK rfl rfl H1.out.1 key_info zK_one ?_; generalize (((w.alloc (.cells k.toArray 25)).alloc (.cells x.toArray 27)).alloc (.cells #[.int .u8 0, .int .u8 0, .int .u8 0, .int .u8 0, .int .u8 0, .int .u8 0, .int .u8 0, .int .u8 0, .int .u8 0, .int .u8 0, .int .u8 0, .int .u8 0, .int .u8 0, .int .u8 0, .int .u8 0, .int .u8 0, .int .u8 0, .int .u8 0, .int .u8 0, .int .u8 0, .int .u8 0, .int .u8 0, .int .u8 0, .int .u8 0, .int .u8 0, .int .u8 0, .int .u8 0, .int .u8 0, .int .u8 0, .int .u8 0, .int .u8 0, .int .u8 0] 25)).setCells (w.heap.size + 1 + 1) 0 zK.toList = w3 at *; have H2 := Lib.hid H1.out.2; clear H1))
  exact bodyPost_ret (v := .tuple #[.agg zK, .int .i64 1]) (ret_cell (p := 10) (u := 11) (ty := 25) rfl _ _ (w.heap.size + 1 + 1) zK _ 25 rfl H2.out.1 Tryz.underlying25 rfl key_info) rfl ⟨rfl, H2.out.2⟩
set_option maxRecDepth 100000 in
set_option maxHeartbeats 1000000 in
theorem move_n {w : World} {s s2 n : Value} {k : List Value} : Calls Tryz.prog 8 #[.pointer none, n, .agg k.toArray, s, s2] w fun e w' => e = .returned (.tuple #[.agg zK, .int .i64 1]) ∧ Mod no w w' := by
  have hm : Mod no w ((w.alloc (.cells k.toArray 25)).alloc (.cells #[.int .u8 0, .int .u8 0, .int .u8 0, .int .u8 0, .int .u8 0, .int .u8 0, .int .u8 0, .int .u8 0, .int .u8 0, .int .u8 0, .int .u8 0, .int .u8 0, .int .u8 0, .int .u8 0, .int .u8 0, .int .u8 0, .int .u8 0, .int .u8 0, .int .u8 0, .int .u8 0, .int .u8 0, .int .u8 0, .int .u8 0, .int .u8 0, .int .u8 0, .int .u8 0, .int .u8 0, .int .u8 0, .int .u8 0, .int .u8 0, .int .u8 0, .int .u8 0] 25)) := ((Mod.refl no w).alloc _).alloc _
  have hb : Blk ((w.alloc (.cells k.toArray 25)).alloc (.cells #[.int .u8 0, .int .u8 0, .int .u8 0, .int .u8 0, .int .u8 0, .int .u8 0, .int .u8 0, .int .u8 0, .int .u8 0, .int .u8 0, .int .u8 0, .int .u8 0, .int .u8 0, .int .u8 0, .int .u8 0, .int .u8 0, .int .u8 0, .int .u8 0, .int .u8 0, .int .u8 0, .int .u8 0, .int .u8 0, .int .u8 0, .int .u8 0, .int .u8 0, .int .u8 0, .int .u8 0, .int .u8 0, .int .u8 0, .int .u8 0, .int .u8 0, .int .u8 0] 25)) (w.heap.size + 1) 25 zK := Blk.new_at _ _ _ (by simp)
  obtain ⟨t1, t2, t3⟩ := store_new (C := zK) hb rfl hm (by omega)
  have H1 := Lib.hid (And.intro t1 (And.intro t2 t3))
  clear t1 t2 t3 hb hm
  go_enter Tryz.func8, Tryz.ntmps8
  go_wp2_with (first | (go_at_call 13; refine some_n.mono ?_; rintro e w2 ⟨rfl, rfl⟩) | (refine wpList_store_mid rfl 25 (.tmp 10) (.tmp 26) rfl (w.heap.size + 1) 0 zK rfl rfl H1.out.1 key_info zK_one ?_; generalize ((w.alloc (.cells k.toArray 25)).alloc (.cells #[.int .u8 0, .int .u8 0, .int .u8 0, .int .u8 0, .int .u8 0, .int .u8 0, .int .u8 0, .int .u8 0, .int .u8 0, .int .u8 0, .int .u8 0, .int .u8 0, .int .u8 0, .int .u8 0, .int .u8 0, .int .u8 0, .int .u8 0, .int .u8 0, .int .u8 0, .int .u8 0, .int .u8 0, .int .u8 0, .int .u8 0, .int .u8 0, .int .u8 0, .int .u8 0, .int .u8 0, .int .u8 0, .int .u8 0, .int .u8 0, .int .u8 0, .int .u8 0] 25)).setCells (w.heap.size + 1) 0 zK.toList = w3 at *; have H2 := Lib.hid H1.out.2; clear H1))
  exact bodyPost_ret (v := .tuple #[.agg zK, .int .i64 1]) (ret_cell (p := 10) (u := 11) (ty := 25) rfl _ _ (w.heap.size + 1) zK _ 25 rfl H2.out.1 Tryz.underlying25 rfl key_info) rfl ⟨rfl, H2.out.2⟩
set_option maxRecDepth 100000 in
set_option maxHeartbeats 1000000 in
theorem list_n {w : World} {s n : Value} {k : List Value} (hk : k.length = 32) : Calls Tryz.prog 5 #[.pointer none, n, .agg k.toArray, s] w fun e w' => e = .returned (.tuple #[.slice none 0 0, .int .i64 1]) ∧ Mod no w w' := by
  have H0 := Lib.hid (And.intro (range_of (Blk.new w 25 k.toArray)) (And.intro ((Mod.refl no w).alloc (.cells k.toArray 25)) hk))
  clear hk
  go_enter Tryz.func5, Tryz.ntmps5
  go_wp2_with (first
    | (go_at_call 4; refine find_n.mono ?_; rintro e w2 ⟨rfl, m2⟩
       obtain ⟨t1, t2, t3⟩ := store_new (C := zI) (Blk.new w2 27 #[.string ⟨#[]⟩, .int .u8 0, .int .u64 0, .int .u8 0, .int .u8 0, .int .u8 0, .int .u8 0, .int .u8 0, .int .u8 0, .int .u8 0, .int .u8 0, .int .u8 0, .int .u8 0, .int .u8 0, .int .u8 0, .int .u8 0, .int .u8 0, .int .u8 0, .int .u8 0, .int .u8 0, .int .u8 0, .int .u8 0, .int .u8 0, .int .u8 0, .int .u8 0, .int .u8 0, .int .u8 0, .int .u8 0, .int .u8 0, .int .u8 0, .int .u8 0, .int .u8 0, .int .u8 0, .int .u8 0, .int .u8 0]) rfl ((H0.out.2.1.and_then m2).alloc (.cells #[.string ⟨#[]⟩, .int .u8 0, .int .u64 0, .int .u8 0, .int .u8 0, .int .u8 0, .int .u8 0, .int .u8 0, .int .u8 0, .int .u8 0, .int .u8 0, .int .u8 0, .int .u8 0, .int .u8 0, .int .u8 0, .int .u8 0, .int .u8 0, .int .u8 0, .int .u8 0, .int .u8 0, .int .u8 0, .int .u8 0, .int .u8 0, .int .u8 0, .int .u8 0, .int .u8 0, .int .u8 0, .int .u8 0, .int .u8 0, .int .u8 0, .int .u8 0, .int .u8 0, .int .u8 0, .int .u8 0, .int .u8 0] 27)) (by have := H0.out.2.1.size; have := m2.size; omega)
       have H1 := Lib.hid (And.intro t1 (And.intro t2 t3))
       clear t1 t2 t3 m2)
    | (refine wpList_store_mid rfl 27 (.tmp 10) (.tmp 18) rfl w2.heap.size 0 zI rfl rfl H1.out.1 item_info zI_one ?_; generalize (w2.alloc (.cells #[.string ⟨#[]⟩, .int .u8 0, .int .u64 0, .int .u8 0, .int .u8 0, .int .u8 0, .int .u8 0, .int .u8 0, .int .u8 0, .int .u8 0, .int .u8 0, .int .u8 0, .int .u8 0, .int .u8 0, .int .u8 0, .int .u8 0, .int .u8 0, .int .u8 0, .int .u8 0, .int .u8 0, .int .u8 0, .int .u8 0, .int .u8 0, .int .u8 0, .int .u8 0, .int .u8 0, .int .u8 0, .int .u8 0, .int .u8 0, .int .u8 0, .int .u8 0, .int .u8 0, .int .u8 0, .int .u8 0, .int .u8 0] 27)).setCells w2.heap.size 0 zI.toList = w3 at *; have H2 := Lib.hid H1.out.2; clear H1)
    | (refine wpList_load_mid rfl 25 (.tmp 6) rfl w.heap.size 0 rfl k _ H0.out.1 Tryz.underlying25 rfl (by rw [H0.out.2.2]; exact key_info) ?_))
  go_ret2
  exact ⟨rfl, H2.out.2⟩
end Go.Proofs.YtaflodfngcgmbaaGreatDoor.DN
