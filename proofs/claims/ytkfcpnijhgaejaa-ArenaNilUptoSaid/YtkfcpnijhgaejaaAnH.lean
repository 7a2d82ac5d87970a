/- The steps of ArenaNil, opened (printed by arenanil6.py). -/
import Derived.Test.YtkfcpnijhgaejaaRows
import Derived.Test.YtkfcpnijhgaejaaAnG
import Derived.Test.YtkfcpnijhgaejaaBulk
import Derived.ProofKit
import Derived.OpenShut
import Derived.Deep.Slices
namespace Go.Proofs.Ytkfcpnijhgaejaa.AN
open Go.ChangeShapes Go.WideShapes Go.ChangeAt Go.RowKit Mem
set_option linter.unusedVariables false
set_option linter.unusedSimpArgs false

section
variable {H : Type} {enc : TypeId × Value → H} {W : World} {v : Value} {d : DataW H} {p : List MemPlace}
/-- A list whose elements are sz cells each. -/
def Elems (W : World) (A : Option Addr) (n sz : Nat) (E : Nat → List Value) : Prop :=
  0 < n → ∃ b o, A = some ⟨b, o, none⟩ ∧ ∀ i, i < n → (E i).length = sz ∧ ∀ k, k < sz → W.cell? ⟨b, o + i * sz + k, none⟩ = (E i)[k]?

set_option maxRecDepth 100000 in
theorem open_elems {t e : TypeId} {sz base : Nat} (ht : Try.prog.underlying t = some (.slice e)) (hc : Try.prog.cellsOf e = sz) (hsz : 0 < sz) (o : Value.okWide Try.prog W .any base t v)
    (h : DataW.Trod enc Try.prog W 0 (fun _ => true) true t v d p) :
    ∃ (A : Option Addr) (n c : Nat) (E : Nat → List Value) (D : Nat → DataW H) (Pl : Nat → List MemPlace) (f : Nat), v = .slice A n c ∧ Elems W A n sz E ∧ n ≤ maxLen ∧ n < Rows.uptoBulk d ∧ Rows.uptoBulkAll ((List.range n).map D) < Rows.uptoBulk d ∧
      ∀ i, i < n → DataW.trod enc Try.prog W 0 (fun _ => true) true f e (E i) = some (D i, Pl i) := by
  obtain ⟨fuel, h⟩ := h
  obtain ⟨a0, l0, c0, rfl⟩ := okWide_slice ht o
  rcases Deep.open_slice ht h with ⟨hc, hx⟩ | ⟨a, len, cap, m, n, D, Pl, hcs, _, hlc, hcap, hm, hx, hel⟩
  · simp [Value.cells] at hc
    obtain ⟨rfl, rfl, rfl⟩ := hc
    injection hx with hx1 hx2
    subst hx1
    exact ⟨none, 0, 0, fun _ => [], fun _ => .nil, fun _ => [], 0, rfl, fun h => absurd h (Nat.lt_irrefl _), Nat.zero_le _, by simp [Rows.uptoBulk], by simp [Rows.uptoBulk, Rows.uptoBulkAll], fun i hi => by omega⟩
  · simp [Value.cells] at hcs
    obtain ⟨rfl, rfl, rfl⟩ := hcs
    simp at hm
    subst hm
    injection hx with hx1 hx2
    subst hx1
    obtain ⟨E, hE⟩ := Deep.choose_lt hel
    refine ⟨some a, l0, m, E, D, Pl, n, rfl, fun hp => ?_, by omega, ?_, ?_, fun i hi => (hE i (by omega)).2⟩
    · have hsp : a.spot = none := by
        have h0 := World.cells?_some (hE 0 (by omega)).1
        rw [hc] at h0
        have h1 := h0.2.2 0 (by omega)
        have hl : 0 < (E 0).length := by rw [h0.2.1]; exact hsz
        rw [List.getElem?_eq_getElem hl, Nat.zero_mul] at h1
        simpa [Addr.add] using World.cell?_spot h1
      obtain ⟨b, ob, sp⟩ := a
      simp at hsp
      subst hsp
      refine ⟨b, ob, rfl, fun i hi => ?_⟩
      have h0 := World.cells?_some (hE i (by omega)).1
      rw [hc] at h0
      refine ⟨h0.2.1, fun k hk => ?_⟩
      have h1 := h0.2.2 k hk
      rw [Mem.add_plain, Mem.add_plain] at h1
      exact h1
    · have := bulks.slice_len ((List.range l0).map D) ((List.range (m - l0)).map fun j => D (l0 + j))
      simpa using this
    · exact bulks.slice_all _ _

theorem u8_cells : Try.prog.cellsOf 5 = 1 := by kernel_rfl

theorem u8_ofInt {n : Int} (h : (Lit.int .u8 n).wf = true) : ((UInt8.ofNat n.toNat).toNat : Int) = n := by
  have := bounds_u8 h
  rw [UInt8.toNat_ofNat']
  omega

theorem int_cell {t : TypeId} {k : IntKind} {f : Nat} {cs : List Value} {x : DataW H × List MemPlace} (ht : Try.prog.underlying t = some (.int k)) (h : DataW.trod enc Try.prog W 0 (fun _ => true) true f t cs = some x) : ∃ n, cs = [.int k n] ∧ (Lit.int k n).wf = true := by
  obtain ⟨n, rfl, _, hw⟩ := DataW.trod_int ht h
  exact ⟨n, rfl, hw⟩

theorem slice_cell {f : Nat} {cs : List Value} {x : DataW H × List MemPlace} (h : DataW.trod enc Try.prog W 0 (fun _ => true) true f 32 cs = some x) :
    ∃ (A : Option Addr) (l : List UInt8) (c : Nat), cs = [.slice A l.length c] ∧ Rds W 1 A l.length (bvs l) ∧ l.length < Rows.uptoBulk x.1 := by
  rcases open_ints Try.underlying32 Try.underlying5 u8_cells h with ⟨rfl, rfl⟩ | ⟨a, n0, n1, zs, rfl, _, hlc, hm, hz, rfl, hcell, hwf⟩
  · exact ⟨none, [], 0, rfl, Rds.zero _ _ _, by simp [Rows.uptoBulk]⟩
  · simp at hz
    have hlen : ((zs.take n0).map fun n => UInt8.ofNat n.toNat).length = n0 := by simp; omega
    refine ⟨some a, (zs.take n0).map fun n => UInt8.ofNat n.toNat, n1, by rw [hlen], ?_, ?_⟩
    · rw [hlen]
      refine ⟨by simp [bvs]; omega, fun hp => ⟨a, rfl, fun j u hu => ?_⟩⟩
      have hj : j < n0 := by
        have := (List.getElem?_eq_some_iff.1 hu).1
        simp [bvs] at this; omega
      rw [hcell j (by omega), ← hu]
      simp only [bvs, List.map_map, List.getElem?_map, List.getElem?_take, if_pos hj]
      rw [List.getElem?_eq_getElem (by omega : j < zs.length)]
      simp only [Option.map_some, Function.comp, bv, List.getD, Option.getD, List.getElem?_eq_getElem (by omega : j < zs.length)]
      rw [u8_ofInt (hwf _ (List.getElem_mem _))]
    · rw [hlen]
      have := bulks.slice_len (lits (H := H) .u8 (zs.take n0)) (lits .u8 (zs.drop n0))
      have hl : (lits (H := H) .u8 (zs.take n0)).length = n0 := by simp [lits]; omega
      simp only
      omega


theorem step_cells : Try.prog.cellsOf 34 = 6 := by kernel_rfl
theorem rdc_of {w : World} {A : Option Addr} {l : List UInt8} (h : Rds w 1 A l.length (bvs l)) : RdC w A l := fun hl => by
  obtain ⟨ad, rfl, hc⟩ := h.2 (List.length_pos_iff.2 hl)
  have h0 := hc 0 _ (bvs_get l 0 (List.length_pos_iff.2 hl))
  obtain ⟨b, o, sp⟩ := ad
  have hsp : sp = none := by simpa [Addr.add] using World.cell?_spot h0
  subst hsp
  refine ⟨b, o, rfl, fun i hi => ?_⟩
  have h1 := hc i _ (bvs_get l i hi)
  rw [Mem.add_plain] at h1
  rw [h1, bvs_get l i hi]
set_option maxRecDepth 100000 in
theorem step_read {f : Nat} {cs : List Value} {x : DataW H × List MemPlace} (h : DataW.trod enc Try.prog W 0 (fun _ => true) true f 34 cs = some x) :
    ∃ (kd p q nn : Int) (A : Option Addr) (l : List UInt8) (c : Nat) (lv : Bool), cs = [.int .i64 kd, .int .i64 p, .int .i64 q, .int .i64 nn, .slice A l.length c, .bool lv] ∧ RdC W A l ∧ l.length < Rows.uptoBulk x.1 := by
  obtain ⟨xs, n, _, hx, hl, hxl, hf⟩ := DataW.trod_struct Try.underlying34 h
  rw [step_cells] at hl
  have hx5 : xs.length = 5 := hxl
  have hy : ∀ i, i < 5 → ∃ y, xs[i]? = some y := fun i hi => ⟨_, List.getElem?_eq_getElem (by omega)⟩
  have e3 : Try.prog.cellsOf 3 = 1 := by kernel_rfl
  have e4 : Try.prog.cellsOf 4 = 1 := by kernel_rfl
  have e31 : Try.prog.cellsOf 31 = 2 := by kernel_rfl
  have e32 : Try.prog.cellsOf 32 = 1 := by kernel_rfl
  obtain ⟨y0, h0⟩ := hy 0 (by decide)
  obtain ⟨y1, h1⟩ := hy 1 (by decide)
  obtain ⟨y2, h2⟩ := hy 2 (by decide)
  obtain ⟨y3, h3⟩ := hy 3 (by decide)
  obtain ⟨y4, h4⟩ := hy 4 (by decide)
  have g0 : DataW.trod enc Try.prog W 0 (fun _ => true) true n 3 ((cs.drop 0).take (Try.prog.cellsOf 3)) = xs[0]? := hf 0 _ rfl
  have g1 : DataW.trod enc Try.prog W 0 (fun _ => true) true n 31 ((cs.drop 1).take (Try.prog.cellsOf 31)) = xs[1]? := hf 1 _ rfl
  have g2 : DataW.trod enc Try.prog W 0 (fun _ => true) true n 3 ((cs.drop 3).take (Try.prog.cellsOf 3)) = xs[2]? := hf 2 _ rfl
  have g3 : DataW.trod enc Try.prog W 0 (fun _ => true) true n 32 ((cs.drop 4).take (Try.prog.cellsOf 32)) = xs[3]? := hf 3 _ rfl
  have g4 : DataW.trod enc Try.prog W 0 (fun _ => true) true n 4 ((cs.drop 5).take (Try.prog.cellsOf 4)) = xs[4]? := hf 4 _ rfl
  rw [h0, e3] at g0
  rw [h1, e31] at g1
  rw [h2, e3] at g2
  rw [h3, e32] at g3
  rw [h4, e4] at g4
  obtain ⟨kd, c0, _⟩ := DataW.trod_int Try.underlying3 g0
  obtain ⟨nn, c2, _⟩ := DataW.trod_int Try.underlying3 g2
  obtain ⟨lv, c4, _⟩ := DataW.trod_bool Try.underlying4 g4
  obtain ⟨A, l, c, c3, hr, hb⟩ := slice_cell g3
  obtain ⟨zs, n1, _, _, hl1, hz1, hf1⟩ := DataW.trod_struct Try.underlying31 g1
  have hz2 : zs.length = 2 := hz1
  have k0 : DataW.trod enc Try.prog W 0 (fun _ => true) true n1 3 ((((cs.drop 1).take 2).drop 0).take (Try.prog.cellsOf 3)) = zs[0]? := hf1 0 _ rfl
  have k1 : DataW.trod enc Try.prog W 0 (fun _ => true) true n1 3 ((((cs.drop 1).take 2).drop 1).take (Try.prog.cellsOf 3)) = zs[1]? := hf1 1 _ rfl
  rw [List.getElem?_eq_getElem (by omega), e3] at k0 k1
  obtain ⟨p, d0, _⟩ := DataW.trod_int Try.underlying3 k0
  obtain ⟨q, d1, _⟩ := DataW.trod_int Try.underlying3 k1
  match cs, hl with
  | [a0, a1, a2, a3, a4, a5], _ =>
    simp at c0 c2 c4 c3 d0 d1
    subst c0 c2 c4 c3 d0 d1
    refine ⟨kd, p, q, nn, A, l, c, lv, rfl, rdc_of hr, ?_⟩
    rw [hx]
    have hm : y3.1 ∈ xs.map (·.1) := List.mem_map.2 ⟨y3, List.mem_of_getElem? h3, rfl⟩
    have := bulks.one_of hm
    simp only [Rows.uptoBulk]
    omega
set_option maxRecDepth 100000 in
theorem nil_core (H : Type) (enc : TypeId × Value → H) (W : World) (base : Nat) (v0 : Value) (d0 : DataW H) (p0 : List MemPlace)
    (o0 : Value.okWide Try.prog W .any base 22 v0)
    (h0 : DataW.Trod enc Try.prog W 0 (fun _ => true) true 22 v0 d0 p0)
    (hk : Rows.uptoSmall H ([d0] ++ []) = true) :
    Calls Try.prog 3 #[v0] W fun e w' => e = .returned (.bool true) ∧ Below W.heap.size W w' := by
  have hb := bulks.most hk
  simp only [List.append_nil, Rows.uptoBulkAll] at hb
  obtain ⟨A, n, c, E, D, Pl, f, rfl, hE, _, hn, hall, hr⟩ := open_elems Try.underlying22 step_cells (by decide) o0 h0
  refine (nil_law (n := n) (fun hp => ?_) (by omega)).mono ?_
  · obtain ⟨b, o, rfl, hc⟩ := hE hp
    refine ⟨b, o, rfl, ?_, fun k hk => ?_⟩
    · have h1 := (hc 0 hp).2 0 (by decide)
      obtain ⟨u, hu⟩ : ∃ u, (E 0)[0]? = some u := ⟨_, List.getElem?_eq_getElem (by rw [(hc 0 hp).1]; decide)⟩
      rw [hu] at h1
      exact cell_lt h1
    · obtain ⟨kd, p, q, nn, A, l, c, lv, e, hrd, hl⟩ := step_read (hr k hk)
      have hd : Rows.uptoBulk (D k) ≤ Rows.uptoBulkAll ((List.range n).map D) := bulks.one_of (List.mem_map.2 ⟨k, by simp; omega, rfl⟩)
      refine ⟨kd, p, q, nn, A, l, c, lv, fun j u hu => ?_, hrd, by simp only at hl; omega⟩
      rw [← e] at hu
      have hj := (List.getElem?_eq_some_iff.1 hu).1
      rw [(hc k hk).1] at hj
      rw [(hc k hk).2 j hj]
      exact hu
  · rintro e w' ⟨he, M⟩
    exact ⟨he, M.below (Nat.le_refl _) (fun k hk c => c.elim)⟩
end
end Go.Proofs.Ytkfcpnijhgaejaa.AN
