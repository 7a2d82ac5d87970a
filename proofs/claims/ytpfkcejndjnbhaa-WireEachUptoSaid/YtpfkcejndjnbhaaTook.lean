/- The law's took, by the document: every kind but the list (printed by wiretook.py). -/
import Derived.Test.YtpfkcejndjnbhaaEnds
import Derived.Test.YtpfkcejndjnbhaaWireZ
namespace Go.Proofs.Ytpfkcejndjnbhaa.RD
open Go.RowKit Mem WM
open Go.Proofs.Ytpfkcejndjnbhaa.WD (RdT RdB u8_info conv_string own_lower own_mod conv_range fixA_lt raw_len key_size mod_sets raw_32 takeV gotV got_blk got_mod got_done got_size key_len wpList_store_key)
set_option linter.unusedVariables false
set_option linter.unusedSimpArgs false

theorem rvar_any {w : World} {g gb : Nat} {bs : List UInt8} {s : St} (most : Nat) (h : RAt w g gb bs s) (hm : most < 18446744073709551616) :
    Calls Try.prog 20 #[.pointer (some ⟨g, 0, none⟩), .int .u64 (most : Int)] w fun e w' => e = .returned (.int .u64 ((varA bs s most).2 : Int)) ∧ RAt w' g gb bs (varA bs s most).1 ∧ Mod (one g) w w' := by
  cases s with
  | dead a e =>
    have H := Lib.hid h
    have c2 := h.stopped
    clear h
    go_enter Try.func20, Try.ntmps20
    go_wp2_with fail
    go_ret
    exact ⟨rfl, H.out, Mod.refl _ _⟩
  | live p =>
    refine (rvar_live most h hm).mono ?_
    rintro e w' ⟨s, n, hv, rfl, D, M⟩
    rw [hv]
    exact ⟨rfl, D, M⟩

theorem rgot {w w1 : World} {g gb : Nat} {bs : List UInt8} {s : St} (hg : g < w.heap.size) (hgb : bs ≠ [] → gb < w.heap.size) (h : RAt w1 g gb bs s) (u v : Value) :
    RAt ((w1.setCell ⟨w.heap.size + 1, 0, none⟩ u).setCell ⟨w.heap.size + 1, 1, none⟩ v) g gb bs s :=
  h.mod (S := one (w.heap.size + 1)) (((Mod.refl (one (w.heap.size + 1)) _).set (p := ⟨w.heap.size + 1, 0, none⟩) (fun _ => rfl) u).set (p := ⟨w.heap.size + 1, 1, none⟩) (fun _ => rfl) v) (fun c => by simp only [one] at c; omega) (fun hne c => by have := hgb hne; simp only [one] at c; omega)

theorem par_cell (w : World) (c : Array Value) (t : TypeId) (o : Obj) (i : Nat) (v : Value) (h : c[i]? = some v := by rfl) : ((w.alloc (.cells c t)).alloc o).cell? ⟨w.heap.size, i, none⟩ = some v := by
  rw [World.cell?_alloc_lt _ _ _ (by simp)]
  exact ((Blk.new w t c).cell i).trans h

theorem set_far2 (w : World) (b i : Nat) (u v : Value) {k : Nat} (h : b ≠ k) : ((w.setCell ⟨k, 0, none⟩ u).setCell ⟨k, 1, none⟩ v).cell? ⟨b, i, none⟩ = w.cell? ⟨b, i, none⟩ := by
  rw [World.cell?_of_block (Below.heap_setCell _ _ _ _ h), World.cell?_of_block (Below.heap_setCell _ _ _ _ h)]

theorem width_v (k : Int) (v : Int) (hv : v = (WM.width k : Int)) (w : World) :
    Calls Try.prog 49 #[.int .i64 k] w fun e w' => e = .returned (.int .i64 v) ∧ w = w' := by
  subst hv; exact width_any k
theorem rfixed_v {w : World} {g gb : Nat} {bs : List UInt8} {s : St} (W : Nat) {v : Int} (hv : v = (W : Int)) (hW : W ≤ 8) (h : RAt w g gb bs s) (hb : bs.length ≤ 70368744177664) :
    Calls Try.prog 73 #[.pointer (some ⟨g, 0, none⟩), .int .i64 v] w fun e w' =>
      e = .returned (.int .u64 ((fixA bs s W).2 : Int)) ∧ RAt w' g gb bs (fixA bs s W).1 ∧ Mod (one g) w w' := by
  subst hv; exact rfixed_any W hW h hb
theorem signed_v {w : World} (v W : Nat) {u : Int} (hu : u = (W : Int)) (hW : 1 ≤ W) (h8 : W ≤ 8) (hv : v < 256 ^ W) :
    Calls Try.prog 74 #[.int .u64 (v : Int), .int .i64 u] w fun e w' => e = .returned (.int .u64 (sgn v W : Int)) ∧ w = w' := by
  subst hu; exact signed_any v W hW h8 hv

set_option maxRecDepth 100000 in
set_option maxHeartbeats 1000000 in
theorem took_var {w : World} {g gb : Nat} {bs : List UInt8} {s : St} (most : Nat) (n : Int) (h : RAt w g gb bs s) (hb : bs.length ≤ 70368744177664) (hm : most < 18446744073709551616) (hgb : bs ≠ [] → gb < w.heap.size) :
    Calls Try.prog 26 #[.pointer (some ⟨g, 0, none⟩), takeV 1 most n] w fun e w' =>
      e = .returned (gotV (varA bs s most).2 []) ∧ RAt w' g gb bs (varA bs s most).1 ∧ Mod (one g) w w' := by
  obtain ⟨ct, htyp⟩ := h.typ
  have hg := htyp.lt
  have H0 := fun o1 o2 => Lib.hid (h.mod (S := no) (((Mod.refl no w).alloc o1).alloc o2) (fun c => c) (fun _ c => c))
  have HBL := Lib.hid hb
  clear htyp h hb
  unfold takeV
  go_enter Try.func26, Try.ntmps26
  go_wp2_with fail
  refine (rvar_any most (H0 _ _).out hm).mono ?_
  rintro e w1 ⟨rfl, D1, M1⟩
  have HD := Lib.hid D1
  have hb4 := got_blk hg M1
  have c0 := hb4.cell 0
  have c1 := hb4.cell 1
  have f0 := hb4.free 0
  have f1 := hb4.free 1
  simp at c0 c1
  clear D1
  go_wp2_with fail
  exact got_done hb4 _ Try.results26 _ rfl rfl _ ⟨rfl, rgot hg hgb HD.out _ _, got_mod M1 _ _⟩

set_option maxRecDepth 100000 in
set_option maxHeartbeats 1000000 in
theorem took_text {w : World} {g gb : Nat} {bs : List UInt8} {s : St} (most : Nat) (n : Int) (h : RAt w g gb bs s) (hb : bs.length ≤ 70368744177664) (hn1 : -9223372036854775808 ≤ n) (hn2 : n ≤ 9223372036854775807) (hgb : bs ≠ [] → gb < w.heap.size) :
    Calls Try.prog 26 #[.pointer (some ⟨g, 0, none⟩), takeV 2 most n] w fun e w' =>
      e = .returned (gotV 0 (textA bs s n).2) ∧ RAt w' g gb bs (textA bs s n).1 ∧ Mod (one g) w w' := by
  obtain ⟨ct, htyp⟩ := h.typ
  have hg := htyp.lt
  have H0 := fun o1 o2 => Lib.hid (h.mod (S := no) (((Mod.refl no w).alloc o1).alloc o2) (fun c => c) (fun _ c => c))
  have HBL := Lib.hid hb
  clear htyp h hb
  unfold takeV
  go_enter Try.func26, Try.ntmps26
  go_wp2_with fail
  refine (rtext_any n (H0 _ _).out HBL.out hn1 hn2).mono ?_
  rintro e w1 ⟨rfl, D1, M1⟩
  have HD := Lib.hid D1
  have hb4 := got_blk hg M1
  have c0 := hb4.cell 0
  have c1 := hb4.cell 1
  have f0 := hb4.free 0
  have f1 := hb4.free 1
  simp at c0 c1
  clear D1
  go_wp2_with fail
  exact got_done hb4 _ Try.results26 _ rfl rfl _ ⟨rfl, rgot hg hgb HD.out _ _, got_mod M1 _ _⟩

set_option maxRecDepth 100000 in
set_option maxHeartbeats 1000000 in
theorem took_raw {w : World} {g gb : Nat} {bs : List UInt8} {s : St} (most : Nat) (n : Int) (h : RAt w g gb bs s) (hb : bs.length ≤ 70368744177664) (hgb : bs ≠ [] → gb < w.heap.size) :
    Calls Try.prog 26 #[.pointer (some ⟨g, 0, none⟩), takeV 3 most n] w fun e w' =>
      e = .returned (gotV 0 (rawA bs s n).2) ∧ RAt w' g gb bs (rawA bs s n).1 ∧ Mod (one g) w w' := by
  obtain ⟨ct, htyp⟩ := h.typ
  have hg := htyp.lt
  have H0 := fun o1 o2 => Lib.hid (h.mod (S := no) (((Mod.refl no w).alloc o1).alloc o2) (fun c => c) (fun _ c => c))
  have HBL := Lib.hid hb
  clear htyp h hb
  unfold takeV
  go_enter Try.func26, Try.ntmps26
  go_wp2_with fail
  refine (rraw_any n (H0 _ _).out HBL.out).mono ?_
  rintro e w1 ⟨A1, k1, rfl, hown, D1, M1⟩
  have hcv := conv_string (RdT.of_own hown) (rawA bs s n).2.length k1 rfl
  clear hown
  have HD := Lib.hid D1
  have hb4 := got_blk hg M1
  have c0 := hb4.cell 0
  have c1 := hb4.cell 1
  have f0 := hb4.free 0
  have f1 := hb4.free 1
  simp at c0 c1
  clear D1
  go_wp2_with fail
  exact got_done hb4 _ Try.results26 _ rfl rfl _ ⟨rfl, rgot hg hgb HD.out _ _, got_mod M1 _ _⟩

set_option maxRecDepth 100000 in
set_option maxHeartbeats 1000000 in
theorem took_fix5 {w : World} {g gb : Nat} {bs : List UInt8} {s : St} (most : Nat) (n : Int) (h : RAt w g gb bs s) (hb : bs.length ≤ 70368744177664) (hgb : bs ≠ [] → gb < w.heap.size) :
    Calls Try.prog 26 #[.pointer (some ⟨g, 0, none⟩), takeV 5 most n] w fun e w' =>
      e = .returned (gotV (sgn (fixA bs s 1).2 1) []) ∧ RAt w' g gb bs (fixA bs s 1).1 ∧ Mod (one g) w w' := by
  obtain ⟨ct, htyp⟩ := h.typ
  have hg := htyp.lt
  have H0 := fun o1 o2 => Lib.hid (h.mod (S := no) (((Mod.refl no w).alloc o1).alloc o2) (fun c => c) (fun _ c => c))
  have HBL := Lib.hid hb
  clear htyp h hb
  unfold takeV
  go_enter Try.func26, Try.ntmps26
  go_wp2_with fail
  have hlt := fixA_lt bs s 1
  have HLT := Lib.hid hlt
  clear hlt
  go_region_held3 (fun w' => w'.cell? ⟨w.heap.size, 0, none⟩ = some (.int .i64 5)) (first | exact par_cell w _ _ _ _ _ | exact (Mod.cell M1 (p := ⟨w.heap.size, 0, none⟩) (by simp; omega) (fun c => by simp only [one] at c; omega)).trans (par_cell w _ _ _ _ _) | exact (set_far2 _ _ _ _ _ (by omega)).trans ((Mod.cell M1 (p := ⟨w.heap.size, 0, none⟩) (by simp; omega) (fun c => by simp only [one] at c; omega)).trans (par_cell w _ _ _ _ _)))
    (first
      | (go_at_call 49; refine (width_v _ 1 rfl _).mono ?_; rintro e w1 ⟨rfl, rfl⟩)
      | (go_at_call 73; refine (rfixed_v 1 rfl (by decide) ((H0 _ _).out.mod (S := no) ((Mod.refl no _).drew) (fun c => c) (fun _ c => c)) HBL.out).mono ?_
         rintro e w1 ⟨rfl, D1, M0⟩
         have M1 := ((Mod.refl (one g) _).drew).and_then M0
         have HD := Lib.hid D1
         have hb4 := got_blk hg M1
         have c0 := hb4.cell 0
         have c1 := hb4.cell 1
         have f0 := hb4.free 0
         have f1 := hb4.free 1
         simp at c0 c1
         clear D1)
      | (go_at_call 74; refine (signed_v _ 1 rfl (by decide) (by decide) HLT.out).mono ?_; rintro e w2 ⟨rfl, rfl⟩))
  go_wp2_with fail
  exact got_done hb4 _ Try.results26 _ rfl rfl _ ⟨rfl, rgot hg hgb HD.out _ _, got_mod M1 _ _⟩

set_option maxRecDepth 100000 in
set_option maxHeartbeats 1000000 in
theorem took_fix6 {w : World} {g gb : Nat} {bs : List UInt8} {s : St} (most : Nat) (n : Int) (h : RAt w g gb bs s) (hb : bs.length ≤ 70368744177664) (hgb : bs ≠ [] → gb < w.heap.size) :
    Calls Try.prog 26 #[.pointer (some ⟨g, 0, none⟩), takeV 6 most n] w fun e w' =>
      e = .returned (gotV (fixA bs s 1).2 []) ∧ RAt w' g gb bs (fixA bs s 1).1 ∧ Mod (one g) w w' := by
  obtain ⟨ct, htyp⟩ := h.typ
  have hg := htyp.lt
  have H0 := fun o1 o2 => Lib.hid (h.mod (S := no) (((Mod.refl no w).alloc o1).alloc o2) (fun c => c) (fun _ c => c))
  have HBL := Lib.hid hb
  clear htyp h hb
  unfold takeV
  go_enter Try.func26, Try.ntmps26
  go_wp2_with (first
    | (go_at_call 49; refine (width_v _ 1 rfl _).mono ?_; rintro e w1 ⟨rfl, rfl⟩)
    | (go_at_call 73; refine (rfixed_v 1 rfl (by decide) (H0 _ _).out HBL.out).mono ?_
       rintro e w1 ⟨rfl, D1, M1⟩
       have HD := Lib.hid D1
       have hb4 := got_blk hg M1
       have c0 := hb4.cell 0
       have c1 := hb4.cell 1
       have f0 := hb4.free 0
       have f1 := hb4.free 1
       simp at c0 c1
       clear D1))
  exact got_done hb4 _ Try.results26 _ rfl rfl _ ⟨rfl, rgot hg hgb HD.out _ _, got_mod M1 _ _⟩

set_option maxRecDepth 100000 in
set_option maxHeartbeats 1000000 in
theorem took_fix7 {w : World} {g gb : Nat} {bs : List UInt8} {s : St} (most : Nat) (n : Int) (h : RAt w g gb bs s) (hb : bs.length ≤ 70368744177664) (hgb : bs ≠ [] → gb < w.heap.size) :
    Calls Try.prog 26 #[.pointer (some ⟨g, 0, none⟩), takeV 7 most n] w fun e w' =>
      e = .returned (gotV (sgn (fixA bs s 2).2 2) []) ∧ RAt w' g gb bs (fixA bs s 2).1 ∧ Mod (one g) w w' := by
  obtain ⟨ct, htyp⟩ := h.typ
  have hg := htyp.lt
  have H0 := fun o1 o2 => Lib.hid (h.mod (S := no) (((Mod.refl no w).alloc o1).alloc o2) (fun c => c) (fun _ c => c))
  have HBL := Lib.hid hb
  clear htyp h hb
  unfold takeV
  go_enter Try.func26, Try.ntmps26
  go_wp2_with fail
  have hlt := fixA_lt bs s 2
  have HLT := Lib.hid hlt
  clear hlt
  go_region_held3 (fun w' => w'.cell? ⟨w.heap.size, 0, none⟩ = some (.int .i64 7)) (first | exact par_cell w _ _ _ _ _ | exact (Mod.cell M1 (p := ⟨w.heap.size, 0, none⟩) (by simp; omega) (fun c => by simp only [one] at c; omega)).trans (par_cell w _ _ _ _ _) | exact (set_far2 _ _ _ _ _ (by omega)).trans ((Mod.cell M1 (p := ⟨w.heap.size, 0, none⟩) (by simp; omega) (fun c => by simp only [one] at c; omega)).trans (par_cell w _ _ _ _ _)))
    (first
      | (go_at_call 49; refine (width_v _ 2 rfl _).mono ?_; rintro e w1 ⟨rfl, rfl⟩)
      | (go_at_call 73; refine (rfixed_v 2 rfl (by decide) ((H0 _ _).out.mod (S := no) ((Mod.refl no _).drew) (fun c => c) (fun _ c => c)) HBL.out).mono ?_
         rintro e w1 ⟨rfl, D1, M0⟩
         have M1 := ((Mod.refl (one g) _).drew).and_then M0
         have HD := Lib.hid D1
         have hb4 := got_blk hg M1
         have c0 := hb4.cell 0
         have c1 := hb4.cell 1
         have f0 := hb4.free 0
         have f1 := hb4.free 1
         simp at c0 c1
         clear D1)
      | (go_at_call 74; refine (signed_v _ 2 rfl (by decide) (by decide) HLT.out).mono ?_; rintro e w2 ⟨rfl, rfl⟩))
  go_wp2_with fail
  exact got_done hb4 _ Try.results26 _ rfl rfl _ ⟨rfl, rgot hg hgb HD.out _ _, got_mod M1 _ _⟩

set_option maxRecDepth 100000 in
set_option maxHeartbeats 1000000 in
theorem took_fix8 {w : World} {g gb : Nat} {bs : List UInt8} {s : St} (most : Nat) (n : Int) (h : RAt w g gb bs s) (hb : bs.length ≤ 70368744177664) (hgb : bs ≠ [] → gb < w.heap.size) :
    Calls Try.prog 26 #[.pointer (some ⟨g, 0, none⟩), takeV 8 most n] w fun e w' =>
      e = .returned (gotV (fixA bs s 2).2 []) ∧ RAt w' g gb bs (fixA bs s 2).1 ∧ Mod (one g) w w' := by
  obtain ⟨ct, htyp⟩ := h.typ
  have hg := htyp.lt
  have H0 := fun o1 o2 => Lib.hid (h.mod (S := no) (((Mod.refl no w).alloc o1).alloc o2) (fun c => c) (fun _ c => c))
  have HBL := Lib.hid hb
  clear htyp h hb
  unfold takeV
  go_enter Try.func26, Try.ntmps26
  go_wp2_with (first
    | (go_at_call 49; refine (width_v _ 2 rfl _).mono ?_; rintro e w1 ⟨rfl, rfl⟩)
    | (go_at_call 73; refine (rfixed_v 2 rfl (by decide) (H0 _ _).out HBL.out).mono ?_
       rintro e w1 ⟨rfl, D1, M1⟩
       have HD := Lib.hid D1
       have hb4 := got_blk hg M1
       have c0 := hb4.cell 0
       have c1 := hb4.cell 1
       have f0 := hb4.free 0
       have f1 := hb4.free 1
       simp at c0 c1
       clear D1))
  exact got_done hb4 _ Try.results26 _ rfl rfl _ ⟨rfl, rgot hg hgb HD.out _ _, got_mod M1 _ _⟩

set_option maxRecDepth 100000 in
set_option maxHeartbeats 1000000 in
theorem took_fix9 {w : World} {g gb : Nat} {bs : List UInt8} {s : St} (most : Nat) (n : Int) (h : RAt w g gb bs s) (hb : bs.length ≤ 70368744177664) (hgb : bs ≠ [] → gb < w.heap.size) :
    Calls Try.prog 26 #[.pointer (some ⟨g, 0, none⟩), takeV 9 most n] w fun e w' =>
      e = .returned (gotV (sgn (fixA bs s 4).2 4) []) ∧ RAt w' g gb bs (fixA bs s 4).1 ∧ Mod (one g) w w' := by
  obtain ⟨ct, htyp⟩ := h.typ
  have hg := htyp.lt
  have H0 := fun o1 o2 => Lib.hid (h.mod (S := no) (((Mod.refl no w).alloc o1).alloc o2) (fun c => c) (fun _ c => c))
  have HBL := Lib.hid hb
  clear htyp h hb
  unfold takeV
  go_enter Try.func26, Try.ntmps26
  go_wp2_with fail
  have hlt := fixA_lt bs s 4
  have HLT := Lib.hid hlt
  clear hlt
  go_region_held3 (fun w' => w'.cell? ⟨w.heap.size, 0, none⟩ = some (.int .i64 9)) (first | exact par_cell w _ _ _ _ _ | exact (Mod.cell M1 (p := ⟨w.heap.size, 0, none⟩) (by simp; omega) (fun c => by simp only [one] at c; omega)).trans (par_cell w _ _ _ _ _) | exact (set_far2 _ _ _ _ _ (by omega)).trans ((Mod.cell M1 (p := ⟨w.heap.size, 0, none⟩) (by simp; omega) (fun c => by simp only [one] at c; omega)).trans (par_cell w _ _ _ _ _)))
    (first
      | (go_at_call 49; refine (width_v _ 4 rfl _).mono ?_; rintro e w1 ⟨rfl, rfl⟩)
      | (go_at_call 73; refine (rfixed_v 4 rfl (by decide) ((H0 _ _).out.mod (S := no) ((Mod.refl no _).drew) (fun c => c) (fun _ c => c)) HBL.out).mono ?_
         rintro e w1 ⟨rfl, D1, M0⟩
         have M1 := ((Mod.refl (one g) _).drew).and_then M0
         have HD := Lib.hid D1
         have hb4 := got_blk hg M1
         have c0 := hb4.cell 0
         have c1 := hb4.cell 1
         have f0 := hb4.free 0
         have f1 := hb4.free 1
         simp at c0 c1
         clear D1)
      | (go_at_call 74; refine (signed_v _ 4 rfl (by decide) (by decide) HLT.out).mono ?_; rintro e w2 ⟨rfl, rfl⟩))
  go_wp2_with fail
  exact got_done hb4 _ Try.results26 _ rfl rfl _ ⟨rfl, rgot hg hgb HD.out _ _, got_mod M1 _ _⟩

set_option maxRecDepth 100000 in
set_option maxHeartbeats 1000000 in
theorem took_fix10 {w : World} {g gb : Nat} {bs : List UInt8} {s : St} (most : Nat) (n : Int) (h : RAt w g gb bs s) (hb : bs.length ≤ 70368744177664) (hgb : bs ≠ [] → gb < w.heap.size) :
    Calls Try.prog 26 #[.pointer (some ⟨g, 0, none⟩), takeV 10 most n] w fun e w' =>
      e = .returned (gotV (fixA bs s 4).2 []) ∧ RAt w' g gb bs (fixA bs s 4).1 ∧ Mod (one g) w w' := by
  obtain ⟨ct, htyp⟩ := h.typ
  have hg := htyp.lt
  have H0 := fun o1 o2 => Lib.hid (h.mod (S := no) (((Mod.refl no w).alloc o1).alloc o2) (fun c => c) (fun _ c => c))
  have HBL := Lib.hid hb
  clear htyp h hb
  unfold takeV
  go_enter Try.func26, Try.ntmps26
  go_wp2_with (first
    | (go_at_call 49; refine (width_v _ 4 rfl _).mono ?_; rintro e w1 ⟨rfl, rfl⟩)
    | (go_at_call 73; refine (rfixed_v 4 rfl (by decide) (H0 _ _).out HBL.out).mono ?_
       rintro e w1 ⟨rfl, D1, M1⟩
       have HD := Lib.hid D1
       have hb4 := got_blk hg M1
       have c0 := hb4.cell 0
       have c1 := hb4.cell 1
       have f0 := hb4.free 0
       have f1 := hb4.free 1
       simp at c0 c1
       clear D1))
  exact got_done hb4 _ Try.results26 _ rfl rfl _ ⟨rfl, rgot hg hgb HD.out _ _, got_mod M1 _ _⟩

set_option maxRecDepth 100000 in
set_option maxHeartbeats 1000000 in
theorem took_fix11 {w : World} {g gb : Nat} {bs : List UInt8} {s : St} (most : Nat) (n : Int) (h : RAt w g gb bs s) (hb : bs.length ≤ 70368744177664) (hgb : bs ≠ [] → gb < w.heap.size) :
    Calls Try.prog 26 #[.pointer (some ⟨g, 0, none⟩), takeV 11 most n] w fun e w' =>
      e = .returned (gotV (sgn (fixA bs s 8).2 8) []) ∧ RAt w' g gb bs (fixA bs s 8).1 ∧ Mod (one g) w w' := by
  obtain ⟨ct, htyp⟩ := h.typ
  have hg := htyp.lt
  have H0 := fun o1 o2 => Lib.hid (h.mod (S := no) (((Mod.refl no w).alloc o1).alloc o2) (fun c => c) (fun _ c => c))
  have HBL := Lib.hid hb
  clear htyp h hb
  unfold takeV
  go_enter Try.func26, Try.ntmps26
  go_wp2_with fail
  have hlt := fixA_lt bs s 8
  have HLT := Lib.hid hlt
  clear hlt
  go_region_held3 (fun w' => w'.cell? ⟨w.heap.size, 0, none⟩ = some (.int .i64 11)) (first | exact par_cell w _ _ _ _ _ | exact (Mod.cell M1 (p := ⟨w.heap.size, 0, none⟩) (by simp; omega) (fun c => by simp only [one] at c; omega)).trans (par_cell w _ _ _ _ _) | exact (set_far2 _ _ _ _ _ (by omega)).trans ((Mod.cell M1 (p := ⟨w.heap.size, 0, none⟩) (by simp; omega) (fun c => by simp only [one] at c; omega)).trans (par_cell w _ _ _ _ _)))
    (first
      | (go_at_call 49; refine (width_v _ 8 rfl _).mono ?_; rintro e w1 ⟨rfl, rfl⟩)
      | (go_at_call 73; refine (rfixed_v 8 rfl (by decide) ((H0 _ _).out.mod (S := no) ((Mod.refl no _).drew) (fun c => c) (fun _ c => c)) HBL.out).mono ?_
         rintro e w1 ⟨rfl, D1, M0⟩
         have M1 := ((Mod.refl (one g) _).drew).and_then M0
         have HD := Lib.hid D1
         have hb4 := got_blk hg M1
         have c0 := hb4.cell 0
         have c1 := hb4.cell 1
         have f0 := hb4.free 0
         have f1 := hb4.free 1
         simp at c0 c1
         clear D1)
      | (go_at_call 74; refine (signed_v _ 8 rfl (by decide) (by decide) HLT.out).mono ?_; rintro e w2 ⟨rfl, rfl⟩))
  go_wp2_with fail
  exact got_done hb4 _ Try.results26 _ rfl rfl _ ⟨rfl, rgot hg hgb HD.out _ _, got_mod M1 _ _⟩

set_option maxRecDepth 100000 in
set_option maxHeartbeats 1000000 in
theorem took_fix12 {w : World} {g gb : Nat} {bs : List UInt8} {s : St} (most : Nat) (n : Int) (h : RAt w g gb bs s) (hb : bs.length ≤ 70368744177664) (hgb : bs ≠ [] → gb < w.heap.size) :
    Calls Try.prog 26 #[.pointer (some ⟨g, 0, none⟩), takeV 12 most n] w fun e w' =>
      e = .returned (gotV (fixA bs s 8).2 []) ∧ RAt w' g gb bs (fixA bs s 8).1 ∧ Mod (one g) w w' := by
  obtain ⟨ct, htyp⟩ := h.typ
  have hg := htyp.lt
  have H0 := fun o1 o2 => Lib.hid (h.mod (S := no) (((Mod.refl no w).alloc o1).alloc o2) (fun c => c) (fun _ c => c))
  have HBL := Lib.hid hb
  clear htyp h hb
  unfold takeV
  go_enter Try.func26, Try.ntmps26
  go_wp2_with (first
    | (go_at_call 49; refine (width_v _ 8 rfl _).mono ?_; rintro e w1 ⟨rfl, rfl⟩)
    | (go_at_call 73; refine (rfixed_v 8 rfl (by decide) (H0 _ _).out HBL.out).mono ?_
       rintro e w1 ⟨rfl, D1, M1⟩
       have HD := Lib.hid D1
       have hb4 := got_blk hg M1
       have c0 := hb4.cell 0
       have c1 := hb4.cell 1
       have f0 := hb4.free 0
       have f1 := hb4.free 1
       simp at c0 c1
       clear D1))
  exact got_done hb4 _ Try.results26 _ rfl rfl _ ⟨rfl, rgot hg hgb HD.out _ _, got_mod M1 _ _⟩

end Go.Proofs.Ytpfkcejndjnbhaa.RD
