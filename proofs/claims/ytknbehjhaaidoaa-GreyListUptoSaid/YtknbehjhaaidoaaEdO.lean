/- The script of GreyList, opened (printed by greyopen.py). -/
import Derived.Test.YtknbehjhaaidoaaRows
import Derived.Test.YtknbehjhaaidoaaEdN
import Derived.Test.YtknbehjhaaidoaaBulk
import Derived.ProofKit
import Derived.OpenShut
import Derived.Deep.Slices
namespace Go.Proofs.Ytknbehjhaaidoaa.DG
open Go.ChangeShapes Go.WideShapes Go.ChangeAt Go.RowKit Mem
set_option linter.unusedVariables false
set_option linter.unusedSimpArgs false

section
variable {H : Type} {enc : TypeId × Value → H} {W : World} {v : Value} {d : DataW H} {p : List MemPlace}
/-- A list whose elements are sz cells each. -/
def Elems (W : World) (A : Option Addr) (n sz : Nat) (E : Nat → List Value) : Prop :=
  0 < n → ∃ b o, A = some ⟨b, o, none⟩ ∧ ∀ i, i < n → (E i).length = sz ∧ ∀ k, k < sz → W.cell? ⟨b, o + i * sz + k, none⟩ = (E i)[k]?

set_option maxRecDepth 100000 in
theorem open_elems {t e : TypeId} {sz base : Nat} (ht : Try.prog.underlying t = some (.slice e)) (hc : Try.prog.cellsOf e = sz) (hsz : 0 < sz) (o : Value.okWide Try.prog W .any base t v)
    (h : DataW.Trod enc Try.prog W 0 (fun _ => true) true t v d p) :
    ∃ (A : Option Addr) (n c : Nat) (E : Nat → List Value) (D : Nat → DataW H) (Pl : Nat → List MemPlace) (f : Nat), v = .slice A n c ∧ Elems W A n sz E ∧ n ≤ maxLen ∧ n < Rows.uptoBulk d ∧ Rows.uptoBulkAll ((List.range n).map D) < Rows.uptoBulk d ∧
      ∀ i, i < n → DataW.trod enc Try.prog W 0 (fun _ => true) true f e (E i) = some (D i, Pl i) := by
  obtain ⟨fuel, h⟩ := h
  obtain ⟨a0, l0, c0, rfl⟩ := okWide_slice ht o
  rcases Deep.open_slice ht h with ⟨hc, hx⟩ | ⟨a, len, cap, m, n, D, Pl, hcs, _, hlc, hcap, hm, hx, hel⟩
  · simp [Value.cells] at hc
    obtain ⟨rfl, rfl, rfl⟩ := hc
    injection hx with hx1 hx2
    subst hx1
    exact ⟨none, 0, 0, fun _ => [], fun _ => .nil, fun _ => [], 0, rfl, fun h => absurd h (Nat.lt_irrefl _), Nat.zero_le _, by simp [Rows.uptoBulk], by simp [Rows.uptoBulk, Rows.uptoBulkAll], fun i hi => by omega⟩
  · simp [Value.cells] at hcs
    obtain ⟨rfl, rfl, rfl⟩ := hcs
    simp at hm
    subst hm
    injection hx with hx1 hx2
    subst hx1
    obtain ⟨E, hE⟩ := Deep.choose_lt hel
    refine ⟨some a, l0, m, E, D, Pl, n, rfl, fun hp => ?_, by omega, ?_, ?_, fun i hi => (hE i (by omega)).2⟩
    · have hsp : a.spot = none := by
        have h0 := World.cells?_some (hE 0 (by omega)).1
        rw [hc] at h0
        have h1 := h0.2.2 0 (by omega)
        have hl : 0 < (E 0).length := by rw [h0.2.1]; exact hsz
        rw [List.getElem?_eq_getElem hl, Nat.zero_mul] at h1
        simpa [Addr.add] using World.cell?_spot h1
      obtain ⟨b, ob, sp⟩ := a
      simp at hsp
      subst hsp
      refine ⟨b, ob, rfl, fun i hi => ?_⟩
      have h0 := World.cells?_some (hE i (by omega)).1
      rw [hc] at h0
      refine ⟨h0.2.1, fun k hk => ?_⟩
      have h1 := h0.2.2 k hk
      rw [Mem.add_plain, Mem.add_plain] at h1
      exact h1
    · have := bulks.slice_len ((List.range l0).map D) ((List.range (m - l0)).map fun j => D (l0 + j))
      simpa using this
    · exact bulks.slice_all _ _


theorem mv_cells : Try.prog.cellsOf 41 = 35 := by kernel_rfl
theorem key_cells : Try.prog.cellsOf 39 = 32 := by kernel_rfl
theorem u8_cells : Try.prog.cellsOf 5 = 1 := by kernel_rfl
theorem bytes_of {w : World} {f : Nat} {cs : List Value} (hl : cs.length = 32) (h : ∀ i, i < 32 → ∃ y, DataW.trod enc Try.prog W 0 (fun _ => true) true f 5 ((cs.drop (i * 1)).take 1) = some y) : ∃ bs : List UInt8, bs.length = 32 ∧ cs = kOf bs := by
  have hg : ∀ i, i < 32 → ∃ b : UInt8, cs[i]? = some (Extern.Stop.cell b) := fun i hi => by
    obtain ⟨y, hy⟩ := h i hi
    obtain ⟨n, e, _, hw⟩ := DataW.trod_int Try.underlying5 hy
    have hn : 0 ≤ n ∧ n ≤ 255 := by simpa [Lit.wf, IntKind.min, IntKind.max, IntKind.signed, IntKind.bits] using hw
    have hc : cs[i]? = some (.int .u8 n) := by
      have h0 : ((cs.drop (i * 1)).take 1)[0]? = some (.int .u8 n) := by rw [e]; rfl
      rw [List.getElem?_take, if_pos (by decide), List.getElem?_drop] at h0
      simpa using h0
    refine ⟨UInt8.ofNat n.toNat, ?_⟩
    rw [hc]
    simp only [Extern.Stop.cell]
    congr 2
    rw [UInt8.toNat_ofNat']
    have : n.toNat % 2 ^ 8 = n.toNat := Nat.mod_eq_of_lt (by omega)
    rw [this]
    show n = ((n.toNat : Nat) : Int)
    omega
  refine ⟨(List.range 32).map fun i => ((cs[i]?.map fun v => match v with | .int .u8 n => UInt8.ofNat n.toNat | _ => 0).getD 0), by simp, ?_⟩
  unfold kOf
  apply List.ext_getElem?
  intro i
  by_cases hi : i < 32
  · obtain ⟨b, hb⟩ := hg i hi
    rw [hb]
    simp only [List.getElem?_map, List.getElem?_range hi, Option.map_some, hb, Option.getD_some]
    simp only [Extern.Stop.cell]
    congr 3
    simp
  · rw [List.getElem?_eq_none (by omega), List.getElem?_eq_none (by simp; omega)]

set_option maxRecDepth 100000 in
theorem move_read {f : Nat} {cs : List Value} {x : DataW H × List MemPlace} (h : DataW.trod enc Try.prog W 0 (fun _ => true) true f 41 cs = some x) :
    (∃ (kd : Int) (nn bt : Bool) (bs : List UInt8), bs.length = 32 ∧ cs = mv kd nn bt (kOf bs)) ∧ 2 ≤ Rows.uptoBulk x.1 := by
  obtain ⟨xs, n, _, hx, hl, hxl, hf⟩ := DataW.trod_struct Try.underlying41 h
  rw [mv_cells] at hl
  have hx4 : xs.length = 4 := hxl
  have hy : ∀ i, i < 4 → ∃ y, xs[i]? = some y := fun i hi => ⟨_, List.getElem?_eq_getElem (by omega)⟩
  have e3 : Try.prog.cellsOf 3 = 1 := by kernel_rfl
  have e4 : Try.prog.cellsOf 4 = 1 := by kernel_rfl
  obtain ⟨y0, h0⟩ := hy 0 (by decide)
  obtain ⟨y1, h1⟩ := hy 1 (by decide)
  obtain ⟨y2, h2⟩ := hy 2 (by decide)
  obtain ⟨y3, h3⟩ := hy 3 (by decide)
  have g0 : DataW.trod enc Try.prog W 0 (fun _ => true) true n 3 ((cs.drop 0).take (Try.prog.cellsOf 3)) = xs[0]? := hf 0 _ rfl
  have g1 : DataW.trod enc Try.prog W 0 (fun _ => true) true n 4 ((cs.drop 1).take (Try.prog.cellsOf 4)) = xs[1]? := hf 1 _ rfl
  have g2 : DataW.trod enc Try.prog W 0 (fun _ => true) true n 4 ((cs.drop 2).take (Try.prog.cellsOf 4)) = xs[2]? := hf 2 _ rfl
  have g3 : DataW.trod enc Try.prog W 0 (fun _ => true) true n 39 ((cs.drop 3).take (Try.prog.cellsOf 39)) = xs[3]? := hf 3 _ rfl
  rw [h0, e3] at g0
  rw [h1, e4] at g1
  rw [h2, e4] at g2
  rw [h3, key_cells] at g3
  obtain ⟨kd, c0, _⟩ := DataW.trod_int Try.underlying3 g0
  obtain ⟨nn, c1, _⟩ := DataW.trod_bool Try.underlying4 g1
  obtain ⟨bt, c2, _⟩ := DataW.trod_bool Try.underlying4 g2
  obtain ⟨zs, m, _, _, hkl, hzl, hz⟩ := DataW.trod_array Try.underlying39 g3
  refine ⟨?_, ?_⟩
  · match cs, hl with
    | a :: b :: c :: k, hl =>
      simp at c0 c1 c2
      subst c0 c1 c2
      have hkl' : k.length = 32 := by simpa using hl
      obtain ⟨bs, hb, e⟩ := bytes_of (enc := enc) (w := W) (f := m) (cs := k) hkl' (fun i hi => by
        have hh := hz i hi
        rw [u8_cells] at hh
        refine ⟨zs[i]'(by omega), ?_⟩
        rw [← List.getElem?_eq_getElem (by omega), ← hh]
        congr 3
        show k = List.take 32 k
        rw [List.take_of_length_le (by omega)])
      exact ⟨kd, nn, bt, bs, hb, by rw [e]; rfl⟩
  · rw [hx]
    have := bulks.len_all (xs.map (·.1))
    simp only [Rows.uptoBulk]
    simp at this
    omega
theorem bulk_two {D : Nat → DataW H} : ∀ (n : Nat), (∀ i, i < n → 2 ≤ Rows.uptoBulk (D i)) → ∀ l : List Nat, (∀ i ∈ l, i < n) → 2 * l.length ≤ Rows.uptoBulkAll (l.map D)
  | n, h, [], _ => by simp [Rows.uptoBulkAll]
  | n, h, i :: l, hl => by
    have h1 := h i (hl i (by simp))
    have h2 := bulk_two n h l (fun j hj => hl j (by simp [hj]))
    simp only [List.map_cons, Rows.uptoBulkAll, List.length_cons]
    omega
set_option maxRecDepth 100000 in
theorem list_core (H : Type) (enc : TypeId × Value → H) (W : World) (base : Nat) (v0 : Value) (d0 : DataW H) (p0 : List MemPlace)
    (o0 : Value.okWide Try.prog W .any base 31 v0)
    (h0 : DataW.Trod enc Try.prog W 0 (fun _ => true) true 31 v0 d0 p0)
    (hk : Rows.uptoSmall H ([d0] ++ []) = true) :
    Calls Try.prog 4 #[v0] W fun e w' => e = .returned (.bool true) ∧ Below W.heap.size W w' := by
  have hb := bulks.most hk
  simp only [List.append_nil, Rows.uptoBulkAll] at hb
  obtain ⟨A, n, c, E, D, Pl, f, rfl, hE, _, _, hall, hr⟩ := open_elems Try.underlying31 mv_cells (by decide) o0 h0
  have h2 := bulk_two (D := D) n (fun i hi => (move_read (hr i hi)).2) (List.range n) (fun i hi => List.mem_range.1 hi)
  rw [List.length_range] at h2
  refine (list_law (n := n) (fun hp => ?_) (by omega)).mono ?_
  · obtain ⟨b, o, rfl, hc⟩ := hE hp
    refine ⟨b, o, rfl, ?_, fun k hk => ?_⟩
    · have h1 := (hc 0 hp).2 0 (by decide)
      obtain ⟨u, hu⟩ : ∃ u, (E 0)[0]? = some u := ⟨_, List.getElem?_eq_getElem (by rw [(hc 0 hp).1]; decide)⟩
      rw [hu] at h1
      exact DI.cell_lt h1
    · obtain ⟨kd, nn, bt, bs, hbs, e⟩ := (move_read (hr k hk)).1
      refine ⟨kd, nn, bt, bs, hbs, fun j u hu => ?_⟩
      rw [← e] at hu
      have hj := (List.getElem?_eq_some_iff.1 hu).1
      rw [(hc k hk).1] at hj
      rw [(hc k hk).2 j hj]
      exact hu
  · rintro e w' ⟨he, M⟩
    exact ⟨he, M.below (Nat.le_refl _) (fun k hk c => c.elim)⟩
end
end Go.Proofs.Ytknbehjhaaidoaa.DG
