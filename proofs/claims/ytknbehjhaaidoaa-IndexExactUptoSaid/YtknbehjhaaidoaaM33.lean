/- IndexExact: the texts ExO of this seat, one behind the other. -/
import Derived.Test.YtknbehjhaaidoaaRows
import Derived.Test.YtknbehjhaaidoaaM32
import Derived.Test.YtknbehjhaaidoaaM02
import Derived.ProofKit
import Derived.OpenShut
import Derived.Deep.Slices
import Derived.ChangeSame
/- The argument of the law IndexExact, opened. -/
namespace Go.Proofs.Ytknbehjhaaidoaa.IX
open Go.ChangeShapes Go.WideShapes Go.ChangeAt Go.RowKit Mem TB
set_option linter.unusedVariables false
set_option linter.unusedSimpArgs false
section
variable {H : Type} {enc : TypeId × Value → H} {W : World}
/-- A list whose elements are sz cells each. -/
def Elems (W : World) (A : Option Addr) (n sz : Nat) (E : Nat → List Value) : Prop :=
  0 < n → ∃ b o, A = some ⟨b, o, none⟩ ∧ ∀ i, i < n → (E i).length = sz ∧ ∀ k, k < sz → W.cell? ⟨b, o + i * sz + k, none⟩ = (E i)[k]?
set_option maxRecDepth 100000 in
theorem open_row {t e : TypeId} {sz f : Nat} {cs : List Value} {d : DataW H} {p : List MemPlace} (ht : Try.prog.underlying t = some (.slice e)) (hc : Try.prog.cellsOf e = sz) (hsz : 0 < sz) (h : DataW.trod enc Try.prog W 0 (fun _ => true) true f t cs = some (d, p)) :
    ∃ (A : Option Addr) (n c : Nat) (E : Nat → List Value) (D : Nat → DataW H) (Pl : Nat → List MemPlace) (f' : Nat), cs = [.slice A n c] ∧ Elems W A n sz E ∧ n < Rows.uptoBulk d ∧ Rows.uptoBulkAll ((List.range n).map D) < Rows.uptoBulk d ∧
      ∀ i, i < n → DataW.trod enc Try.prog W 0 (fun _ => true) true f' e (E i) = some (D i, Pl i) := by
  rcases Deep.open_slice ht h with ⟨hc, hx⟩ | ⟨a, len, cap, m, n, D, Pl, hcs, _, hlc, hcap, hm, hx, hel⟩
  · subst hc
    injection hx with hx1 hx2
    subst hx1
    exact ⟨none, 0, 0, fun _ => [], fun _ => .nil, fun _ => [], 0, rfl, fun h => absurd h (Nat.lt_irrefl _), by simp [Rows.uptoBulk], by simp [Rows.uptoBulk, Rows.uptoBulkAll], fun i hi => by omega⟩
  · subst hcs
    simp at hm
    subst hm
    injection hx with hx1 hx2
    subst hx1
    obtain ⟨E, hE⟩ := Deep.choose_lt hel
    refine ⟨some a, len, m, E, D, Pl, n, rfl, fun hp => ?_, ?_, ?_, fun i hi => (hE i (by omega)).2⟩
    · have hsp : a.spot = none := by
        have h0 := World.cells?_some (hE 0 (by omega)).1
        rw [hc] at h0
        have h1 := h0.2.2 0 (by omega)
        have hl : 0 < (E 0).length := by rw [h0.2.1]; exact hsz
        rw [List.getElem?_eq_getElem hl, Nat.zero_mul] at h1
        simpa [Addr.add] using World.cell?_spot h1
      obtain ⟨b, ob, sp⟩ := a
      simp at hsp
      subst hsp
      refine ⟨b, ob, rfl, fun i hi => ?_⟩
      have h0 := World.cells?_some (hE i (by omega)).1
      rw [hc] at h0
      refine ⟨h0.2.1, fun k hk => ?_⟩
      have h1 := h0.2.2 k hk
      rw [Mem.add_plain, Mem.add_plain] at h1
      exact h1
    · have := bulks.slice_len ((List.range len).map D) ((List.range (m - len)).map fun j => D (len + j))
      simpa using this
    · exact bulks.slice_all _ _
theorem key_cells : Try.prog.cellsOf 39 = 32 := by kernel_rfl
theorem keys_cells : Try.prog.cellsOf 45 = 1 := by kernel_rfl
theorem u8_cells : Try.prog.cellsOf 5 = 1 := by kernel_rfl
theorem bytes_of {f : Nat} {cs : List Value} (hl : cs.length = 32) (h : ∀ i, i < 32 → ∃ y, DataW.trod enc Try.prog W 0 (fun _ => true) true f 5 ((cs.drop (i * 1)).take 1) = some y) : ∃ bs : List UInt8, bs.length = 32 ∧ cs = kOf bs := by
  have hg : ∀ i, i < 32 → ∃ b : UInt8, cs[i]? = some (Extern.Stop.cell b) := fun i hi => by
    obtain ⟨y, hy⟩ := h i hi
    obtain ⟨n, e, _, hw⟩ := DataW.trod_int Try.underlying5 hy
    have hn : 0 ≤ n ∧ n ≤ 255 := by simpa [Lit.wf, IntKind.min, IntKind.max, IntKind.signed, IntKind.bits] using hw
    have hc : cs[i]? = some (.int .u8 n) := by
      have h0 : ((cs.drop (i * 1)).take 1)[0]? = some (.int .u8 n) := by rw [e]; rfl
      rw [List.getElem?_take, if_pos (by decide), List.getElem?_drop] at h0
      simpa using h0
    refine ⟨UInt8.ofNat n.toNat, ?_⟩
    rw [hc]
    simp only [Extern.Stop.cell]
    congr 2
    rw [UInt8.toNat_ofNat']
    have : n.toNat % 2 ^ 8 = n.toNat := Nat.mod_eq_of_lt (by omega)
    rw [this]
    show n = ((n.toNat : Nat) : Int)
    omega
  refine ⟨(List.range 32).map fun i => ((cs[i]?.map fun v => match v with | .int .u8 n => UInt8.ofNat n.toNat | _ => 0).getD 0), by simp, ?_⟩
  unfold kOf
  apply List.ext_getElem?
  intro i
  by_cases hi : i < 32
  · obtain ⟨b, hb⟩ := hg i hi
    rw [hb]
    simp only [List.getElem?_map, List.getElem?_range hi, Option.map_some, hb, Option.getD_some]
    simp only [Extern.Stop.cell]
    congr 3
    simp
  · rw [List.getElem?_eq_none (by omega), List.getElem?_eq_none (by simp; omega)]
theorem key_of {f : Nat} {cs : List Value} {x : DataW H × List MemPlace} (h : DataW.trod enc Try.prog W 0 (fun _ => true) true f 39 cs = some x) : ∃ k : Key, cs = k.L := by
  obtain ⟨zs, m, _, _, hkl, hzl, hz⟩ := DataW.trod_array Try.underlying39 h
  rw [key_cells] at hkl
  obtain ⟨bs, hb, e⟩ := bytes_of (enc := enc) (W := W) (f := m) (cs := cs) hkl (fun i hi => by
    have hh := hz i hi
    rw [u8_cells] at hh
    exact ⟨zs[i]'(by omega), by rw [← List.getElem?_eq_getElem (by omega), ← hh]⟩)
  exact ⟨⟨bs, hb⟩, e⟩
instance : Inhabited Key := ⟨k0⟩
instance : Inhabited Stp := ⟨stp0⟩
theorem cut_take (cs : List Value) (o n : Nat) : cs.drop o = (cs.drop o).take n ++ cs.drop (o + n) := by rw [← List.drop_drop, List.take_append_drop]
theorem c_int : Try.prog.cellsOf 3 = 1 := by kernel_rfl
theorem c_bool : Try.prog.cellsOf 4 = 1 := by kernel_rfl
theorem c_u32 : Try.prog.cellsOf 54 = 1 := by kernel_rfl
theorem c_place : Try.prog.cellsOf 53 = 2 := by kernel_rfl
theorem c_ent : Try.prog.cellsOf 56 = 4 := by kernel_rfl
theorem c_step : Try.prog.cellsOf 73 = 45 := by kernel_rfl
theorem c_key : Try.prog.cellsOf 39 = 32 := key_cells
set_option maxRecDepth 100000 in
theorem place_of {f : Nat} {cs : List Value} {x : DataW H × List MemPlace} (h : DataW.trod enc Try.prog W 0 (fun _ => true) true f 53 cs = some x) : ∃ p q : Int, cs = [.int .i64 p, .int .i64 q] := by
  obtain ⟨zs, n1, _, _, hl1, hz1, hf1⟩ := DataW.trod_struct Try.underlying53 h
  rw [c_place] at hl1
  have hz2 : zs.length = 2 := hz1
  have k0 : DataW.trod enc Try.prog W 0 (fun _ => true) true n1 3 ((cs.drop 0).take (Try.prog.cellsOf 3)) = zs[0]? := hf1 0 _ rfl
  have k1 : DataW.trod enc Try.prog W 0 (fun _ => true) true n1 3 ((cs.drop 1).take (Try.prog.cellsOf 3)) = zs[1]? := hf1 1 _ rfl
  rw [List.getElem?_eq_getElem (by omega), c_int] at k0 k1
  obtain ⟨p, d0, _⟩ := DataW.trod_int Try.underlying3 k0
  obtain ⟨q, d1, _⟩ := DataW.trod_int Try.underlying3 k1
  refine ⟨p, q, ?_⟩
  have e2 : cs.drop 2 = [] := List.drop_eq_nil_of_le (by omega)
  have h0 := cut_take cs 0 1
  have h1 := cut_take cs 1 1
  rw [d0] at h0
  rw [d1, e2] at h1
  rw [List.drop_zero, h1] at h0
  exact h0
set_option maxRecDepth 100000 in
theorem ent_of {f : Nat} {cs : List Value} {x : DataW H × List MemPlace} (h : DataW.trod enc Try.prog W 0 (fun _ => true) true f 56 cs = some x) : ∃ e : Ent, cs = e.L := by
  obtain ⟨zs, n1, _, _, hl1, hz1, hf1⟩ := DataW.trod_struct Try.underlying56 h
  rw [c_ent] at hl1
  have hz2 : zs.length = 3 := hz1
  have k0 : DataW.trod enc Try.prog W 0 (fun _ => true) true n1 53 ((cs.drop 0).take (Try.prog.cellsOf 53)) = zs[0]? := hf1 0 _ rfl
  have k1 : DataW.trod enc Try.prog W 0 (fun _ => true) true n1 3 ((cs.drop 2).take (Try.prog.cellsOf 3)) = zs[1]? := hf1 1 _ rfl
  have k2 : DataW.trod enc Try.prog W 0 (fun _ => true) true n1 54 ((cs.drop 3).take (Try.prog.cellsOf 54)) = zs[2]? := hf1 2 _ rfl
  rw [List.getElem?_eq_getElem (by omega)] at k0 k1 k2
  rw [c_place] at k0
  rw [c_int] at k1
  rw [c_u32] at k2
  obtain ⟨p, q, d0⟩ := place_of k0
  obtain ⟨z, d1, _⟩ := DataW.trod_int Try.underlying3 k1
  obtain ⟨m, d2, _⟩ := DataW.trod_int Try.underlying54 k2
  refine ⟨⟨p, q, z, m⟩, ?_⟩
  have e4 : cs.drop 4 = [] := List.drop_eq_nil_of_le (by omega)
  have h0 := cut_take cs 0 2
  have h1 := cut_take cs 2 1
  have h2 := cut_take cs 3 1
  rw [d0] at h0
  rw [d1] at h1
  rw [d2, e4] at h2
  rw [h2] at h1
  rw [List.drop_zero, h1] at h0
  exact h0
set_option maxRecDepth 100000 in
theorem step_of {f : Nat} {cs : List Value} {x : DataW H × List MemPlace} (h : DataW.trod enc Try.prog W 0 (fun _ => true) true f 73 cs = some x) : ∃ s : Stp, cs = s.L := by
  obtain ⟨zs, n1, _, _, hl1, hz1, hf1⟩ := DataW.trod_struct Try.underlying73 h
  rw [c_step] at hl1
  have hz2 : zs.length = 9 := hz1
  have k0 : DataW.trod enc Try.prog W 0 (fun _ => true) true n1 3 ((cs.drop 0).take (Try.prog.cellsOf 3)) = zs[0]? := hf1 0 _ rfl
  have k1 : DataW.trod enc Try.prog W 0 (fun _ => true) true n1 3 ((cs.drop 1).take (Try.prog.cellsOf 3)) = zs[1]? := hf1 1 _ rfl
  have k2 : DataW.trod enc Try.prog W 0 (fun _ => true) true n1 4 ((cs.drop 2).take (Try.prog.cellsOf 4)) = zs[2]? := hf1 2 _ rfl
  have k3 : DataW.trod enc Try.prog W 0 (fun _ => true) true n1 39 ((cs.drop 3).take (Try.prog.cellsOf 39)) = zs[3]? := hf1 3 _ rfl
  have k4 : DataW.trod enc Try.prog W 0 (fun _ => true) true n1 56 ((cs.drop 35).take (Try.prog.cellsOf 56)) = zs[4]? := hf1 4 _ rfl
  have k5 : DataW.trod enc Try.prog W 0 (fun _ => true) true n1 54 ((cs.drop 39).take (Try.prog.cellsOf 54)) = zs[5]? := hf1 5 _ rfl
  have k6 : DataW.trod enc Try.prog W 0 (fun _ => true) true n1 53 ((cs.drop 40).take (Try.prog.cellsOf 53)) = zs[6]? := hf1 6 _ rfl
  have k7 : DataW.trod enc Try.prog W 0 (fun _ => true) true n1 53 ((cs.drop 42).take (Try.prog.cellsOf 53)) = zs[7]? := hf1 7 _ rfl
  have k8 : DataW.trod enc Try.prog W 0 (fun _ => true) true n1 4 ((cs.drop 44).take (Try.prog.cellsOf 4)) = zs[8]? := hf1 8 _ rfl
  rw [List.getElem?_eq_getElem (by omega)] at k0 k1 k2 k3 k4 k5 k6 k7 k8
  rw [c_int] at k0 k1
  rw [c_bool] at k2 k8
  rw [c_key] at k3
  rw [c_ent] at k4
  rw [c_u32] at k5
  rw [c_place] at k6 k7
  obtain ⟨kd, d0, _⟩ := DataW.trod_int Try.underlying3 k0
  obtain ⟨on, d1, _⟩ := DataW.trod_int Try.underlying3 k1
  obtain ⟨nn, d2, _⟩ := DataW.trod_bool Try.underlying4 k2
  obtain ⟨k, d3⟩ := key_of k3
  obtain ⟨e, d4⟩ := ent_of k4
  obtain ⟨ep, d5, _⟩ := DataW.trod_int Try.underlying54 k5
  obtain ⟨p, q, d6⟩ := place_of k6
  obtain ⟨p', q', d7⟩ := place_of k7
  obtain ⟨an, d8, _⟩ := DataW.trod_bool Try.underlying4 k8
  refine ⟨⟨kd, on, nn, k, e, ep, p, q, p', q', an⟩, ?_⟩
  have e9 : cs.drop 45 = [] := List.drop_eq_nil_of_le (by omega)
  have h0 := cut_take cs 0 1
  have h1 := cut_take cs 1 1
  have h2 := cut_take cs 2 1
  have h3 := cut_take cs 3 32
  have h4 := cut_take cs 35 4
  have h5 := cut_take cs 39 1
  have h6 := cut_take cs 40 2
  have h7 := cut_take cs 42 2
  have h8 := cut_take cs 44 1
  rw [d8, e9] at h8
  rw [d7, h8] at h7
  rw [d6, h7] at h6
  rw [d5, h6] at h5
  rw [d4, h5] at h4
  rw [d3, h4] at h3
  rw [d2, h3] at h2
  rw [d1, h2] at h1
  rw [d0, h1, List.drop_zero] at h0
  rw [h0]
  simp [Stp.L]
theorem script_of {f : Nat} {cs : List Value} {d : DataW H} {p : List MemPlace} (h : DataW.trod enc Try.prog W 0 (fun _ => true) true f 66 cs = some (d, p)) : ∃ v l, cs = [v] ∧ SAt W v l ∧ l.length < Rows.uptoBulk d := by
  obtain ⟨A, n, c, E, D, Pl, f', rfl, hE, hb, _, hr⟩ := open_row Try.underlying66 c_step (by decide) h
  obtain ⟨K, hK⟩ := Deep.choose_lt (p := fun i (k : Stp) => E i = k.L) (fun i hi => step_of (hr i hi))
  refine ⟨_, (List.range n).map K, rfl, ⟨A, c, by simp, fun i k hk => ?_⟩, by simpa using hb⟩
  have hi : i < n := by have := (List.getElem?_eq_some_iff.1 hk).1; simpa using this
  rw [List.getElem?_map, List.getElem?_range hi] at hk
  injection hk with hk
  obtain ⟨b, o, rfl, hc⟩ := hE (by omega)
  refine ⟨b, o, rfl, fun j v hv => ?_⟩
  have hj := (List.getElem?_eq_some_iff.1 hv).1
  rw [Stp.len] at hj
  rw [(hc i hi).2 j hj, hK i hi, hk]
  exact hv
set_option maxRecDepth 100000 in
theorem exact_core (H : Type) (enc : TypeId × Value → H) (W : World) (base : Nat) (v0 : Value) (d0 : DataW H) (p0 : List MemPlace)
    (o0 : Value.okWide Try.prog W .any base 66 v0)
    (h0 : DataW.Trod enc Try.prog W 0 (fun _ => true) true 66 v0 d0 p0)
    (hk : Rows.uptoSmall H ([d0] ++ []) = true) :
    Calls Try.prog 6 #[v0] W fun e w' => e = .returned (.bool true) ∧ Below W.heap.size W w' := by
  have hb := bulks.most hk
  simp only [List.append_nil, Rows.uptoBulkAll] at hb
  obtain ⟨a0, l0, c0, rfl⟩ := okWide_slice Try.underlying66 o0
  obtain ⟨fuel, h⟩ := h0
  obtain ⟨v, ss, e, hS, hl⟩ := script_of h
  simp only [Value.cells] at e
  injection e with e _
  subst e
  refine (exact_law hS (by omega)).mono ?_
  rintro e w' ⟨he, M⟩
  exact ⟨he, M.below (Nat.le_refl _) (fun k hk c => c.elim)⟩
end
end Go.Proofs.Ytknbehjhaaidoaa.IX

