/- The law KeepWastes, as its frame takes it: the argument opened. -/
import Derived.Test.YtoncjoelkenjnaaWstL
import Derived.ProofKit
import Derived.OpenShut
import Derived.Deep.Slices
import Derived.Lib.SmallJoins
namespace Go.Proofs.Ytoncjoelkenjnaa.WS
open Go.ChangeShapes Go.WideShapes Go.ChangeAt Go.RowKit Go.Joins Mem FL
set_option linter.unusedVariables false
set_option linter.unusedSimpArgs false

section
variable {H : Type} {enc : TypeId × Value → H} {W : World}
theorem trod_float {t : TypeId} {k : FloatKind} {f : Nat} {cs : List Value} {x : DataW H × List MemPlace} (ht : Try.prog.underlying t = some (.float k)) (h : DataW.trod enc Try.prog W 0 (fun _ => true) true f t cs = some x) : ∃ b, cs = [.float k b] := by
  cases f with
  | zero => simp [DataW.trod] at h
  | succ n =>
    unfold DataW.trod at h
    rw [ht] at h
    split at h <;> simp_all
theorem seg_cells : Try.prog.cellsOf 34 = 5 := by kernel_rfl
theorem int_cell {t : TypeId} {k : IntKind} {f : Nat} {cs : List Value} {x : DataW H × List MemPlace} (ht : Try.prog.underlying t = some (.int k)) (h : DataW.trod enc Try.prog W 0 (fun _ => true) true f t cs = some x) : ∃ n, cs = [.int k n] := by
  obtain ⟨n, rfl, _, hw⟩ := DataW.trod_int ht h
  exact ⟨n, rfl⟩
set_option maxRecDepth 100000 in
theorem seg_read {f : Nat} {cs : List Value} {x : DataW H × List MemPlace} (h : DataW.trod enc Try.prog W 0 (fun _ => true) true f 34 cs = some x) :
    ∃ s u l p h : Int, cs = [.int .u8 s, .int .i64 u, .int .i64 l, .int .i64 p, .int .i64 h] := by
  obtain ⟨xs, n, _, hx, hl, hxl, hf⟩ := DataW.trod_struct Try.underlying34 h
  rw [seg_cells] at hl
  match cs, hl, xs, hxl with
  | [c0, c1, c2, c3, c4], hl, [y0, y1, y2, y3, y4], _ =>
    have g0 := hf 0 _ rfl
    have g1 := hf 1 _ rfl
    have g2 := hf 2 _ rfl
    have g3 := hf 3 _ rfl
    have g4 := hf 4 _ rfl
    have e3 : Try.prog.cellsOf 3 = 1 := by kernel_rfl
    have e32 : Try.prog.cellsOf 32 = 1 := by kernel_rfl
    simp [e3, e32] at g0 g1 g2 g3 g4
    obtain ⟨s, r0⟩ := int_cell Try.underlying32 g0
    obtain ⟨u, r1⟩ := int_cell Try.underlying3 g1
    obtain ⟨l, r2⟩ := int_cell Try.underlying3 g2
    obtain ⟨p, r3⟩ := int_cell Try.underlying3 g3
    obtain ⟨hh, r4⟩ := int_cell Try.underlying3 g4
    simp at r0 r1 r2 r3 r4
    subst r0 r1 r2 r3 r4
    exact ⟨s, u, l, p, hh, rfl⟩
set_option maxRecDepth 100000 in
theorem segs_cell {f : Nat} {cs : List Value} {x : DataW H × List MemPlace} (h : DataW.trod enc Try.prog W 0 (fun _ => true) true f 22 cs = some x) :
    ∃ (A : Option Addr) (n c : Nat) (u l : Nat → Int), cs = [.slice A n c] ∧ SegA W A n u l ∧ n ≤ maxLen := by
  rcases Deep.open_slice Try.underlying22 h with ⟨rfl, hx⟩ | ⟨a, len, cap, m, n, D, Pl, rfl, _, hlc, hcap, hm, hx, hel⟩
  · exact ⟨none, 0, 0, fun _ => 0, fun _ => 0, rfl, seg_0 _ _ _ _, Nat.zero_le _⟩
  · simp at hm
    subst hm
    obtain ⟨E, hE⟩ := Deep.choose_lt hel
    have h1 : ∀ i, i < m → ∃ t : Int × Int × Int × Int × Int, E i = [.int .u8 t.1, .int .i64 t.2.1, .int .i64 t.2.2.1, .int .i64 t.2.2.2.1, .int .i64 t.2.2.2.2] := fun i hi => by
      obtain ⟨s, u, l, p, h, e⟩ := seg_read (hE i hi).2
      exact ⟨⟨s, u, l, p, h⟩, e⟩
    obtain ⟨T, hT⟩ := Deep.choose_lt h1
    refine ⟨some a, len, m, fun i => (T i).2.1, fun i => (T i).2.2.1, rfl, fun hp => ?_, by omega⟩
    have hsp : a.spot = none := by
      have h0 := World.cells?_some (hE 0 (by omega)).1
      rw [seg_cells] at h0
      have h1 := h0.2.2 0 (by omega)
      have hl : 0 < (E 0).length := by rw [h0.2.1]; decide
      rw [List.getElem?_eq_getElem hl, Nat.zero_mul] at h1
      simpa [Addr.add] using World.cell?_spot h1
    obtain ⟨b, ob, sp⟩ := a
    simp at hsp
    subst hsp
    refine ⟨b, ob, rfl, fun i hi => ?_⟩
    have h0 := World.cells?_some (hE i (by omega)).1
    rw [seg_cells] at h0
    have hc : ∀ k v, k < 5 → (E i)[k]? = some v → W.cell? ⟨b, ob + i * 5 + k, none⟩ = some v := fun k v hk hv => by
      have h1 := h0.2.2 k hk
      rw [Mem.add_plain, Mem.add_plain, hv] at h1
      exact h1
    have hTi := hT i (by omega)
    exact ⟨(T i).1, (T i).2.2.2.1, (T i).2.2.2.2, hc 0 _ (by decide) (by rw [hTi]; rfl), hc 1 _ (by decide) (by rw [hTi]; rfl), hc 2 _ (by decide) (by rw [hTi]; rfl), hc 3 _ (by decide) (by rw [hTi]; rfl), hc 4 _ (by decide) (by rw [hTi]; rfl)⟩

theorem wish_cells : Try.prog.cellsOf 27 = 6 := by kernel_rfl

set_option maxRecDepth 100000 in
theorem wish_open {base : Nat} {v : Value} {d : DataW H} {p : List MemPlace} (o : Value.okWide Try.prog W .any base 27 v) (h : DataW.Trod enc Try.prog W 0 (fun _ => true) true 27 v d p) :
    ∃ (A : Option Addr) (n c : Nat) (size : Int) (p q : Nat) (b0 b1 : Bool) (u l : Nat → Int), v = .agg #[.slice A n c, .int .i64 size, .float .f64 p, .float .f64 q, .bool b0, .bool b1] ∧ SegA W A n u l ∧ n ≤ maxLen := by
  obtain ⟨cs, rfl, hsz⟩ := okWide_struct Try.underlying27 o
  obtain ⟨fuel, hf⟩ := h
  obtain ⟨y0, y1, y2, y3, n, hx, _, h0, h1, h2, h3⟩ := trod_struct4 Try.underlying27 hf
  rw [wish_cells] at hsz
  obtain ⟨cl⟩ := cs
  match cl, hsz with
  | [c0, c1, c2, c3, c4, c5], _ =>
    have e22 : Try.prog.cellsOf 22 = 1 := by kernel_rfl
    have e3 : Try.prog.cellsOf 3 = 1 := by kernel_rfl
    have e24 : Try.prog.cellsOf 24 = 2 := by kernel_rfl
    have e25 : Try.prog.cellsOf 25 = 2 := by kernel_rfl
    have e23 : Try.prog.cellsOf 23 = 1 := by kernel_rfl
    have e4 : Try.prog.cellsOf 4 = 1 := by kernel_rfl
    simp [Value.cells, e22, e3, e24, e25] at h0 h1 h2 h3
    obtain ⟨A, n, c, u, l, r0, hS, hn⟩ := segs_cell h0
    obtain ⟨size, r1⟩ := int_cell Try.underlying3 h1
    obtain ⟨xs, m, _, _, _, hxl, hg⟩ := DataW.trod_array Try.underlying24 h2
    obtain ⟨xs', m', _, _, _, hxl', hg'⟩ := DataW.trod_array Try.underlying25 h3
    have g0 := hg 0 (by decide)
    have g1 := hg 1 (by decide)
    have k0 := hg' 0 (by decide)
    have k1 := hg' 1 (by decide)
    rw [List.getElem?_eq_getElem (by omega)] at g0 g1 k0 k1
    simp [e23, e4] at g0 g1 k0 k1
    obtain ⟨p, r2⟩ := trod_float Try.underlying23 g0
    obtain ⟨q, r3⟩ := trod_float Try.underlying23 g1
    obtain ⟨b0, r4, _⟩ := DataW.trod_bool Try.underlying4 k0
    obtain ⟨b1, r5, _⟩ := DataW.trod_bool Try.underlying4 k1
    simp at r0 r1 r2 r3 r4 r5
    subst r0 r1 r2 r3 r4 r5
    exact ⟨A, n, c, size, p, q, b0, b1, u, l, rfl, hS, hn⟩
end

set_option maxRecDepth 100000 in
theorem wastes_core (H : Type) (enc : TypeId × Value → H) (W : World) (base : Nat) (v0 : Value) (d0 : DataW H) (p0 : List MemPlace)
    (o0 : Value.okWide Try.prog W .any base 27 v0) (h0 : DataW.Trod enc Try.prog W 0 (fun _ => true) true 27 v0 d0 p0) :
    Calls Try.prog 3 #[v0] W fun e w' => e = .returned (.bool true) ∧ Below W.heap.size W w' := by
  obtain ⟨A, n, c, size, p, q, b0, b1, u, l, rfl, hS, hn⟩ := wish_open o0 h0
  refine (wastes_law hS (by simp only [maxLen] at hn; omega)).mono ?_
  rintro e w' ⟨he, M⟩
  exact ⟨he, M.below (Nat.le_refl _) (fun k hk c => c.elim)⟩
end Go.Proofs.Ytoncjoelkenjnaa.WS
