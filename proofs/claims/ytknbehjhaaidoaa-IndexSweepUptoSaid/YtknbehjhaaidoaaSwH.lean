/- The arguments of the law IndexSweep, opened. -/
import Derived.Test.YtknbehjhaaidoaaRows
import Derived.Test.YtknbehjhaaidoaaSwG
import Derived.Test.YtknbehjhaaidoaaBulk
import Derived.ProofKit
import Derived.OpenShut
import Derived.Deep.Slices
import Derived.ChangeSame
namespace Go.Proofs.Ytknbehjhaaidoaa.IX
open Go.ChangeShapes Go.WideShapes Go.ChangeAt Go.RowKit Mem TB
set_option linter.unusedVariables false
set_option linter.unusedSimpArgs false
section
variable {H : Type} {enc : TypeId × Value → H} {W : World}
/-- A list whose elements are sz cells each. -/
def Elems (W : World) (A : Option Addr) (n sz : Nat) (E : Nat → List Value) : Prop :=
  0 < n → ∃ b o, A = some ⟨b, o, none⟩ ∧ ∀ i, i < n → (E i).length = sz ∧ ∀ k, k < sz → W.cell? ⟨b, o + i * sz + k, none⟩ = (E i)[k]?
set_option maxRecDepth 100000 in
theorem open_row {t e : TypeId} {sz f : Nat} {cs : List Value} {d : DataW H} {p : List MemPlace} (ht : Try.prog.underlying t = some (.slice e)) (hc : Try.prog.cellsOf e = sz) (hsz : 0 < sz) (h : DataW.trod enc Try.prog W 0 (fun _ => true) true f t cs = some (d, p)) :
    ∃ (A : Option Addr) (n c : Nat) (E : Nat → List Value) (D : Nat → DataW H) (Pl : Nat → List MemPlace) (f' : Nat), cs = [.slice A n c] ∧ Elems W A n sz E ∧ n < Rows.uptoBulk d ∧ Rows.uptoBulkAll ((List.range n).map D) < Rows.uptoBulk d ∧
      ∀ i, i < n → DataW.trod enc Try.prog W 0 (fun _ => true) true f' e (E i) = some (D i, Pl i) := by
  rcases Deep.open_slice ht h with ⟨hc, hx⟩ | ⟨a, len, cap, m, n, D, Pl, hcs, _, hlc, hcap, hm, hx, hel⟩
  · subst hc
    injection hx with hx1 hx2
    subst hx1
    exact ⟨none, 0, 0, fun _ => [], fun _ => .nil, fun _ => [], 0, rfl, fun h => absurd h (Nat.lt_irrefl _), by simp [Rows.uptoBulk], by simp [Rows.uptoBulk, Rows.uptoBulkAll], fun i hi => by omega⟩
  · subst hcs
    simp at hm
    subst hm
    injection hx with hx1 hx2
    subst hx1
    obtain ⟨E, hE⟩ := Deep.choose_lt hel
    refine ⟨some a, len, m, E, D, Pl, n, rfl, fun hp => ?_, ?_, ?_, fun i hi => (hE i (by omega)).2⟩
    · have hsp : a.spot = none := by
        have h0 := World.cells?_some (hE 0 (by omega)).1
        rw [hc] at h0
        have h1 := h0.2.2 0 (by omega)
        have hl : 0 < (E 0).length := by rw [h0.2.1]; exact hsz
        rw [List.getElem?_eq_getElem hl, Nat.zero_mul] at h1
        simpa [Addr.add] using World.cell?_spot h1
      obtain ⟨b, ob, sp⟩ := a
      simp at hsp
      subst hsp
      refine ⟨b, ob, rfl, fun i hi => ?_⟩
      have h0 := World.cells?_some (hE i (by omega)).1
      rw [hc] at h0
      refine ⟨h0.2.1, fun k hk => ?_⟩
      have h1 := h0.2.2 k hk
      rw [Mem.add_plain, Mem.add_plain] at h1
      exact h1
    · have := bulks.slice_len ((List.range len).map D) ((List.range (m - len)).map fun j => D (len + j))
      simpa using this
    · exact bulks.slice_all _ _
theorem key_cells : Try.prog.cellsOf 39 = 32 := by kernel_rfl
theorem keys_cells : Try.prog.cellsOf 45 = 1 := by kernel_rfl
theorem u8_cells : Try.prog.cellsOf 5 = 1 := by kernel_rfl
theorem bytes_of {f : Nat} {cs : List Value} (hl : cs.length = 32) (h : ∀ i, i < 32 → ∃ y, DataW.trod enc Try.prog W 0 (fun _ => true) true f 5 ((cs.drop (i * 1)).take 1) = some y) : ∃ bs : List UInt8, bs.length = 32 ∧ cs = kOf bs := by
  have hg : ∀ i, i < 32 → ∃ b : UInt8, cs[i]? = some (Extern.Stop.cell b) := fun i hi => by
    obtain ⟨y, hy⟩ := h i hi
    obtain ⟨n, e, _, hw⟩ := DataW.trod_int Try.underlying5 hy
    have hn : 0 ≤ n ∧ n ≤ 255 := by simpa [Lit.wf, IntKind.min, IntKind.max, IntKind.signed, IntKind.bits] using hw
    have hc : cs[i]? = some (.int .u8 n) := by
      have h0 : ((cs.drop (i * 1)).take 1)[0]? = some (.int .u8 n) := by rw [e]; rfl
      rw [List.getElem?_take, if_pos (by decide), List.getElem?_drop] at h0
      simpa using h0
    refine ⟨UInt8.ofNat n.toNat, ?_⟩
    rw [hc]
    simp only [Extern.Stop.cell]
    congr 2
    rw [UInt8.toNat_ofNat']
    have : n.toNat % 2 ^ 8 = n.toNat := Nat.mod_eq_of_lt (by omega)
    rw [this]
    show n = ((n.toNat : Nat) : Int)
    omega
  refine ⟨(List.range 32).map fun i => ((cs[i]?.map fun v => match v with | .int .u8 n => UInt8.ofNat n.toNat | _ => 0).getD 0), by simp, ?_⟩
  unfold kOf
  apply List.ext_getElem?
  intro i
  by_cases hi : i < 32
  · obtain ⟨b, hb⟩ := hg i hi
    rw [hb]
    simp only [List.getElem?_map, List.getElem?_range hi, Option.map_some, hb, Option.getD_some]
    simp only [Extern.Stop.cell]
    congr 3
    simp
  · rw [List.getElem?_eq_none (by omega), List.getElem?_eq_none (by simp; omega)]
theorem key_of {f : Nat} {cs : List Value} {x : DataW H × List MemPlace} (h : DataW.trod enc Try.prog W 0 (fun _ => true) true f 39 cs = some x) : ∃ k : Key, cs = k.L := by
  obtain ⟨zs, m, _, _, hkl, hzl, hz⟩ := DataW.trod_array Try.underlying39 h
  rw [key_cells] at hkl
  obtain ⟨bs, hb, e⟩ := bytes_of (enc := enc) (W := W) (f := m) (cs := cs) hkl (fun i hi => by
    have hh := hz i hi
    rw [u8_cells] at hh
    exact ⟨zs[i]'(by omega), by rw [← List.getElem?_eq_getElem (by omega), ← hh]⟩)
  exact ⟨⟨bs, hb⟩, e⟩
instance : Inhabited Key := ⟨k0⟩
theorem keys_of {f : Nat} {cs : List Value} {d : DataW H} {p : List MemPlace} (h : DataW.trod enc Try.prog W 0 (fun _ => true) true f 45 cs = some (d, p)) : ∃ v l, cs = [v] ∧ KAt W v l ∧ l.length < Rows.uptoBulk d := by
  obtain ⟨A, n, c, E, D, Pl, f', rfl, hE, hb, _, hr⟩ := open_row Try.underlying45 key_cells (by decide) h
  obtain ⟨K, hK⟩ := Deep.choose_lt (p := fun i (k : Key) => E i = k.L) (fun i hi => key_of (hr i hi))
  refine ⟨_, (List.range n).map K, rfl, ⟨A, c, by simp, fun i k hk => ?_⟩, by simpa using hb⟩
  have hi : i < n := by have := (List.getElem?_eq_some_iff.1 hk).1; simpa using this
  rw [List.getElem?_map, List.getElem?_range hi] at hk
  injection hk with hk
  obtain ⟨b, o, rfl, hc⟩ := hE (by omega)
  refine ⟨b, o, rfl, fun j v hv => ?_⟩
  have hj := (List.getElem?_eq_some_iff.1 hv).1
  rw [Key.len] at hj
  rw [(hc i hi).2 j hj, hK i hi, hk]
  exact hv
theorem bulk_sum {D : Nat → DataW H} {l : Nat → List Key} : ∀ (n : Nat) (is : List Nat), (∀ i ∈ is, i < n) → (∀ i, i < n → (l i).length < Rows.uptoBulk (D i)) → (is.map l).flatten.length + is.length ≤ Rows.uptoBulkAll (is.map D)
  | n, [], _, _ => by simp [Rows.uptoBulkAll]
  | n, i :: is, hi, h => by
    have h1 := h i (hi i (by simp))
    have h2 := bulk_sum n is (fun j hj => hi j (by simp [hj])) h
    simp only [List.map_cons, Rows.uptoBulkAll, List.length_cons, List.flatten_cons, List.length_append]
    omega
theorem keyss_of {f : Nat} {cs : List Value} {d : DataW H} {p : List MemPlace} (h : DataW.trod enc Try.prog W 0 (fun _ => true) true f 46 cs = some (d, p)) : ∃ v Cs, cs = [v] ∧ CAt W v Cs ∧ Cs.flatten.length + Cs.length < Rows.uptoBulk d := by
  obtain ⟨A, n, c, E, D, Pl, f', rfl, hE, hb, hall, hr⟩ := open_row Try.underlying46 keys_cells (by decide) h
  obtain ⟨K, hK⟩ := Deep.choose_lt (p := fun i (x : Value × List Key) => E i = [x.1] ∧ KAt W x.1 x.2 ∧ x.2.length < Rows.uptoBulk (D i)) (fun i hi => by
    obtain ⟨v, l, h1, h2, h3⟩ := keys_of (hr i hi)
    exact ⟨(v, l), h1, h2, h3⟩)
  have hs := bulk_sum (D := D) (l := fun i => (K i).2) n (List.range n) (fun i hi => List.mem_range.1 hi) (fun i hi => (hK i hi).2.2)
  rw [List.length_range] at hs
  refine ⟨_, (List.range n).map fun i => (K i).2, rfl, ⟨A, c, by simp, fun i l hl => ?_⟩, by rw [List.length_map, List.length_range]; omega⟩
  have hi : i < n := by have := (List.getElem?_eq_some_iff.1 hl).1; simpa using this
  rw [List.getElem?_map, List.getElem?_range hi] at hl
  injection hl with hl
  obtain ⟨b, o, rfl, hc⟩ := hE (by omega)
  refine ⟨b, o, (K i).1, rfl, ?_, by rw [← hl]; exact (hK i hi).2.1⟩
  have h1 := (hc i hi).2 0 (by decide)
  rw [(hK i hi).1, Nat.mul_one, Nat.add_zero] at h1
  exact h1
set_option maxRecDepth 100000 in
theorem sweep_core (H : Type) (enc : TypeId × Value → H) (W : World) (base : Nat) (v0 : Value) (d0 : DataW H) (p0 : List MemPlace)
    (o0 : Value.okWide Try.prog W .any base 48 v0)
    (h0 : DataW.Trod enc Try.prog W 0 (fun _ => true) true 48 v0 d0 p0)
    (hk : Rows.uptoSmall H ([d0] ++ []) = true) :
    Calls Try.prog 5 #[v0] W fun e w' => e = .returned (.bool true) ∧ Below W.heap.size W w' := by
  have hb := bulks.most hk
  simp only [List.append_nil, Rows.uptoBulkAll] at hb
  obtain ⟨cs, rfl, hl⟩ := okWide_struct Try.underlying48 o0
  rw [show Try.prog.cellsOf 48 = 2 by kernel_rfl] at hl
  obtain ⟨fuel, h⟩ := h0
  obtain ⟨y0, y1, n, hx, _, g0, g1⟩ := trod_struct2 Try.underlying48 h
  obtain ⟨l⟩ := cs
  match l, hl with
  | [a, b], _ =>
    have g0' : DataW.trod enc Try.prog W 0 (fun _ => true) true n 45 [a] = some (y0.1, y0.2) := by
      have e1 : Try.prog.cellsOf 45 = 1 := by kernel_rfl
      exact (show _ = DataW.trod enc Try.prog W 0 (fun _ => true) true n 45 (([a, b].drop 0).take (Try.prog.cellsOf 45)) by rw [e1]; rfl).trans g0
    have g1' : DataW.trod enc Try.prog W 0 (fun _ => true) true n 46 [b] = some (y1.1, y1.2) := by
      have e1 : Try.prog.cellsOf 46 = 1 := by kernel_rfl
      exact (show _ = DataW.trod enc Try.prog W 0 (fun _ => true) true n 46 (([a, b].drop 1).take (Try.prog.cellsOf 46)) by rw [e1]; rfl).trans g1
    obtain ⟨s1, F, e1, hF, hFl⟩ := keys_of g0'
    obtain ⟨s2, Cs, e2, hC, hCl⟩ := keyss_of g1'
    injection e1 with e1 _
    injection e2 with e2 _
    subst e1 e2
    injection hx with hx1 hx2
    subst hx1
    simp only [Rows.uptoBulk, Rows.uptoBulkAll] at hb
    refine (sweep_law hF hC ⟨by rw [List.length_append]; omega, by omega⟩).mono ?_
    rintro e w' ⟨he, M⟩
    exact ⟨he, M.below (Nat.le_refl _) (fun k hk c => c.elim)⟩
end
end Go.Proofs.Ytknbehjhaaidoaa.IX
