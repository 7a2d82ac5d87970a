/- The law's take, by the program. -/
import Derived.Test.YtpfkcejndjnbhaaWireS
namespace Go.Proofs.Ytpfkcejndjnbhaa.WD
open Go.RowKit Mem WM
set_option linter.unusedVariables false
set_option linter.unusedSimpArgs false

theorem var_any {w : World} {g gb : Nat} {bs : List UInt8} {s : St} (most : Nat) (h : DecAt w g gb bs s) (hm : most < 18446744073709551616) :
    Calls Try.prog 29 #[.pointer (some ⟨g, 0, none⟩), .int .u64 (most : Int)] w fun e w' => e = .returned (.int .u64 ((varA bs s most).2 : Int)) ∧ DecAt w' g gb bs (varA bs s most).1 ∧ Mod (one g) w w' := by
  cases s with
  | dead a e =>
    have H := Lib.hid h
    clear h
    go_enter Try.func29, Try.ntmps29
    go_wp2_with (go_at_call 51; refine (over_dead H.out).mono ?_; rintro e w' ⟨rfl, rfl⟩)
    go_ret
    exact ⟨rfl, H.out, Mod.refl _ _⟩
  | live p =>
    refine (var_live (most : Int) h (by omega) (by omega)).mono ?_
    rintro e w' ⟨s, n, hv, rfl, D, M⟩
    rw [Int.toNat_natCast] at hv
    rw [hv]
    exact ⟨rfl, D, M⟩

/-- What a take is told, and what it answers. -/
def takeV (kind : Int) (most : Nat) (n : Int) : Value := .agg #[.int .i64 kind, .int .u64 (most : Int), .int .i64 n]
def gotV (v : Nat) (b : List UInt8) : Value := .agg #[.int .u64 (v : Int), .string ⟨b.toArray⟩]

/-- The block of the result, behind what the taker did. -/
theorem got_blk {w w1 : World} {g : Nat} {o : Obj} {cs : Array Value} {t : TypeId} (hg : g < w.heap.size) (M : Mod (one g) ((w.alloc o).alloc (.cells cs t)) w1) : Blk w1 (w.heap.size + 1) t cs :=
  (Blk.new_at (n := w.heap.size + 1) (w.alloc o) t cs (by simp)).mod M (fun c => by simp only [one] at c; omega)

theorem got_mod {w w1 : World} {g : Nat} {o : Obj} {cs : Array Value} {t : TypeId} (M : Mod (one g) ((w.alloc o).alloc (.cells cs t)) w1) (u v : Value) :
    Mod (one g) w ((w1.setCell ⟨w.heap.size + 1, 0, none⟩ u).setCell ⟨w.heap.size + 1, 1, none⟩ v) :=
  ((((Mod.refl (one g) w).alloc _).alloc _).and_then M |>.set (p := ⟨w.heap.size + 1, 0, none⟩) (fun c => absurd (show w.heap.size + 1 < w.heap.size from c) (by omega)) u).set (p := ⟨w.heap.size + 1, 1, none⟩) (fun c => absurd (show w.heap.size + 1 < w.heap.size from c) (by omega)) v

theorem got_dec {w w1 : World} {g gb : Nat} {bs : List UInt8} {s : St} (hg : g < w.heap.size) (hgb : bs ≠ [] → gb < w.heap.size) {cs : Array Value} {t : TypeId} (hb : Blk w1 (w.heap.size + 1) t cs) (ht : t ≠ 58) (h : DecAt w1 g gb bs s) (u v : Value) :
    DecAt ((w1.setCell ⟨w.heap.size + 1, 0, none⟩ u).setCell ⟨w.heap.size + 1, 1, none⟩ v) g gb bs s :=
  h.mod (S := one (w.heap.size + 1)) (((Mod.refl (one (w.heap.size + 1)) _).set (p := ⟨w.heap.size + 1, 0, none⟩) (fun _ => rfl) u).set (p := ⟨w.heap.size + 1, 1, none⟩) (fun _ => rfl) v) (fun c => by simp only [one] at c; omega) (fun hne c => by have := hgb hne; simp only [one] at c; omega)
    (fun k cs' hk c => by simp only [one] at c; subst c; have e := hk.symm.trans hb; simp at e; exact ht e.2.symm)

theorem got_size : (Try.prog.info? 66).map (·.size) = some 2 := by kernel_rfl

theorem got_done {w1 : World} {k : Nat} {c0 c1 u v : Value} (hb : Blk w1 k 66 #[c0, c1]) (fn : Func) (hr : fn.results = #[.cell 4 66]) (a : Act) (hp : a.tmps.getD 4 undef = .pointer (some ⟨k, 0, none⟩)) (hd : a.defers = [])
    (R : Ending → World → Prop) (h : R (.returned (.agg #[u, v])) ((w1.setCell ⟨k, 0, none⟩ u).setCell ⟨k, 1, none⟩ v)) : bodyPost Try.prog fn R .ret a ((w1.setCell ⟨k, 0, none⟩ u).setCell ⟨k, 1, none⟩ v) := by
  have hb2 : Blk ((w1.setCell ⟨k, 0, none⟩ u).setCell ⟨k, 1, none⟩ v) k 66 #[u, v] := by simpa using (hb.put 0 u).put 1 v
  exact bodyPost_ret (results_cell_row (P := Try.prog) hr a.tmps _ k _ #[u, v] (0, 0) _ hp hb2 Try.underlying66 rfl got_size) hd h

set_option maxRecDepth 100000 in
set_option maxHeartbeats 1000000 in
theorem take_var {w : World} {g gb : Nat} {bs : List UInt8} {s : St} (most : Nat) (n : Int) (h : DecAt w g gb bs s) (hm : most < 18446744073709551616) (hgb : bs ≠ [] → gb < w.heap.size) :
    Calls Try.prog 25 #[.pointer (some ⟨g, 0, none⟩), takeV 1 most n] w fun e w' =>
      e = .returned (gotV (varA bs s most).2 []) ∧ DecAt w' g gb bs (varA bs s most).1 ∧ Mod (one g) w w' := by
  obtain ⟨ct, htyp⟩ := h.typ
  have hg := htyp.lt
  have H0 := fun o1 o2 => Lib.hid (h.mod (S := no) (((Mod.refl no w).alloc o1).alloc o2) (fun c => c) (fun _ c => c) (fun _ _ _ c => c))
  clear htyp h
  unfold takeV
  go_enter Try.func25, Try.ntmps25
  go_wp2_with fail
  refine (var_any most (H0 _ _).out hm).mono ?_
  rintro e w1 ⟨rfl, D1, M1⟩
  have HD := Lib.hid D1
  have hb4 := got_blk hg M1
  have c0 := hb4.cell 0
  have c1 := hb4.cell 1
  have f0 := hb4.free 0
  have f1 := hb4.free 1
  simp at c0 c1
  clear D1
  go_wp2_with fail
  exact got_done hb4 _ Try.results25 _ rfl rfl _ ⟨rfl, got_dec hg hgb hb4 (by decide) HD.out _ _, got_mod M1 _ _⟩

end Go.Proofs.Ytpfkcejndjnbhaa.WD
