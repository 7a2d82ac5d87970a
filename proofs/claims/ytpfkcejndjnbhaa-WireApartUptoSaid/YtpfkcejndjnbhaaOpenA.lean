/- The arguments opened: lists of adds. -/
import Derived.Test.YtpfkcejndjnbhaaLaid
namespace Go.Proofs.Ytpfkcejndjnbhaa.OP
open Go.ChangeShapes Go.WideShapes Go.ChangeAt Go.RowKit Mem WM
open Go.Proofs.Ytpfkcejndjnbhaa.EN (addL addV addA)
set_option linter.unusedVariables false
set_option linter.unusedSimpArgs false

/-- An add, as data. -/
structure AddI where
  kind : Int
  N : Nat
  S : List UInt8
  B : List UInt8
  K : List UInt8
def AddI.bytes (a : AddI) : List UInt8 := addA a.kind a.N a.S a.B a.K
def AddI.ok (a : AddI) : Prop := a.N < 18446744073709551616 ∧ a.K.length = 32
/-- The cells cs are the add's. -/
def AddAt (W : World) (cs : List Value) (a : AddI) : Prop := ∃ (A : Option Addr) (c : Nat), cs = addL a.kind a.N a.S A a.B.length c a.K ∧ Rds W 1 A a.B.length (bvs a.B)

/-- What the first k of them add. -/
def allB (F : Nat → AddI) (k : Nat) : List UInt8 := (List.range k).flatMap fun i => (F i).bytes
theorem allB_0 (F : Nat → AddI) : allB F 0 = [] := rfl
theorem allB_succ (F : Nat → AddI) (k : Nat) : allB F (k + 1) = allB F k ++ (F k).bytes := by simp [allB, List.range_succ]

section
variable {H : Type} {enc : TypeId × Value → H} {W : World} {d : DataW H} {v : Value} {p : List MemPlace}

theorem add_size : Try.prog.cellsOf 32 = 36 := by kernel_rfl
theorem key_cells : Try.prog.cellsOf 30 = 32 := by kernel_rfl

theorem slice_cell {f : Nat} {cs : List Value} {x : DataW H × List MemPlace} (h : DataW.trod enc Try.prog W 0 (fun _ => true) true f 23 cs = some x) :
    ∃ (A : Option Addr) (l : List UInt8) (c : Nat), cs = [.slice A l.length c] ∧ Rds W 1 A l.length (bvs l) ∧ l.length < Rows.uptoBulk x.1 := by
  rcases open_ints Try.underlying23 Try.underlying5 u8_cells h with ⟨rfl, rfl⟩ | ⟨a, n0, n1, zs, rfl, _, hlc, hm, hz, rfl, hcell, hwf⟩
  · exact ⟨none, [], 0, rfl, Rds.zero _ _ _, by simp [Rows.uptoBulk]⟩
  · simp at hz
    have hlen : ((zs.take n0).map fun n => UInt8.ofNat n.toNat).length = n0 := by simp; omega
    refine ⟨some a, (zs.take n0).map fun n => UInt8.ofNat n.toNat, n1, by rw [hlen], ?_, ?_⟩
    · rw [hlen]
      refine ⟨by simp [bvs]; omega, fun hp => ⟨a, rfl, fun j u hu => ?_⟩⟩
      have hj : j < n0 := by
        have := (List.getElem?_eq_some_iff.1 hu).1
        simp [bvs] at this; omega
      rw [hcell j (by omega), ← hu]
      simp only [bvs, List.map_map, List.getElem?_map, List.getElem?_take, if_pos hj]
      rw [List.getElem?_eq_getElem (by omega : j < zs.length)]
      simp only [Option.map_some, Function.comp, bv, List.getD, Option.getD, List.getElem?_eq_getElem (by omega : j < zs.length)]
      rw [u8_ofInt (hwf _ (List.getElem_mem _))]
    · rw [hlen]
      have := bulks.slice_len (lits (H := H) .u8 (zs.take n0)) (lits .u8 (zs.drop n0))
      have hl : (lits (H := H) .u8 (zs.take n0)).length = n0 := by simp [lits]; omega
      simp only
      omega

theorem str_cell {f : Nat} {cs : List Value} {x : DataW H × List MemPlace} (h : DataW.trod enc Try.prog W 0 (fun _ => true) true f 9 cs = some x) :
    ∃ l : List UInt8, cs = [.string ⟨l.toArray⟩] ∧ l.length < Rows.uptoBulk x.1 := by
  obtain ⟨s, rfl, rfl, hs⟩ := DataW.trod_string Try.underlying9 h
  refine ⟨s.data.toList, by simp, bulks.text_len _⟩

set_option maxRecDepth 100000 in
theorem key_cell {f : Nat} {cs : List Value} {x : DataW H × List MemPlace} (h : DataW.trod enc Try.prog W 0 (fun _ => true) true f 30 cs = some x) :
    ∃ K : List UInt8, cs = bvs K ∧ K.length = 32 := by
  obtain ⟨xs, n, _, _, hl, hxl, hf⟩ := DataW.trod_array Try.underlying30 h
  rw [key_cells] at hl
  have h1 : ∀ i, i < 32 → ∃ b : UInt8, cs[i]? = some (bv b) := by
    intro i hi
    have h2 := hf i hi
    rw [u8_cells, Nat.mul_one, List.getElem?_eq_getElem (by omega)] at h2
    rw [List.drop_eq_getElem_cons (by omega)] at h2
    simp only [List.take_succ_cons, List.take_zero] at h2
    obtain ⟨m, hm, hw⟩ := int_cell Try.underlying5 h2
    injection hm with hm
    refine ⟨UInt8.ofNat m.toNat, ?_⟩
    rw [List.getElem?_eq_getElem (by omega), hm, bv, u8_ofInt hw]
  obtain ⟨f, hf'⟩ := Deep.choose_lt h1
  refine ⟨(List.range 32).map f, ?_, by simp⟩
  apply List.ext_getElem?
  intro i
  by_cases hi : i < 32
  · rw [hf' i hi, bvs_get', List.getElem?_map, List.getElem?_range hi]; rfl
  · rw [List.getElem?_eq_none (by omega), List.getElem?_eq_none (by simp [bvs]; omega)]

set_option maxRecDepth 100000 in
theorem add_read {f : Nat} {cs : List Value} {x : DataW H × List MemPlace} (h : DataW.trod enc Try.prog W 0 (fun _ => true) true f 32 cs = some x) :
    ∃ a : AddI, AddAt W cs a ∧ a.ok ∧ a.S.length + a.B.length < Rows.uptoBulk x.1 := by
  obtain ⟨xs, n, _, hx, hl, hxl, hf⟩ := DataW.trod_struct Try.underlying32 h
  rw [add_size] at hl
  match cs, hl, xs, hxl with
  | c0 :: c1 :: c2 :: c3 :: ks, hl, [y0, y1, y2, y3, y4], _ =>
    have g0 := hf 0 _ rfl
    have g1 := hf 1 _ rfl
    have g2 := hf 2 _ rfl
    have g3 := hf 3 _ rfl
    have g4 := hf 4 _ rfl
    have e3 : Try.prog.cellsOf 3 = 1 := by kernel_rfl
    have e28 : Try.prog.cellsOf 28 = 1 := by kernel_rfl
    have e9 : Try.prog.cellsOf 9 = 1 := by kernel_rfl
    have e23 : Try.prog.cellsOf 23 = 1 := by kernel_rfl
    have hks : ks.length = 32 := by simp at hl; omega
    simp [e3, e28, e9, e23, key_cells] at g0 g1 g2 g3 g4
    rw [List.take_of_length_le (by omega)] at g4
    obtain ⟨k, r0, w0⟩ := int_cell Try.underlying3 g0
    obtain ⟨m, r1, w1⟩ := int_cell Try.underlying28 g1
    obtain ⟨l, r2, hb2⟩ := str_cell g2
    obtain ⟨A, B, c, r3, hr, hb3⟩ := slice_cell g3
    obtain ⟨K, rfl, hK⟩ := key_cell g4
    simp at r0 r1 r2 r3
    subst r0 r1 r2 r3
    have b1 := bounds_u64 w1
    refine ⟨⟨k, m.toNat, l, B, K⟩, ⟨A, c, by simp only [addL]; rw [show ((m.toNat : Nat) : Int) = m by omega]; rfl, hr⟩, ⟨by simp only; omega, hK⟩, ?_⟩
    subst hx
    have p0 := bulks.pos y0.1
    simp only [List.map_cons, List.map_nil, Rows.uptoBulk, Rows.uptoBulkAll]
    omega

theorem bulk_append (l r : List (DataW H)) : Rows.uptoBulkAll (l ++ r) = Rows.uptoBulkAll l + Rows.uptoBulkAll r := by
  induction l with
  | nil => simp [Rows.uptoBulkAll]
  | cons x l ih => simp only [List.cons_append, Rows.uptoBulkAll, ih]; omega

set_option maxRecDepth 100000 in
/-- A list of adds. -/
theorem open_adds {base : Nat} (hbk : Rows.uptoBulk d ≤ 1048576) (o : Value.okWide Try.prog W .any base 22 v) (h : DataW.Trod enc Try.prog W 0 (fun _ => true) true 22 v d p) :
    ∃ (A : Option Addr) (n c : Nat) (E : Nat → List Value) (F : Nat → AddI), v = .slice A n c ∧ Elems W A n 36 E ∧ n < Rows.uptoBulk d ∧ (∀ i, i < n → AddAt W (E i) (F i) ∧ (F i).ok ∧ (F i).S.length + (F i).B.length < Rows.uptoBulk d) ∧ (allB F n).length ≤ 51 * Rows.uptoBulk d := by
  obtain ⟨A, n, c, E, D, Pl, f, rfl, hE, _, hn, hall, hel⟩ := open_elems Try.underlying22 add_size (by decide) o h
  have h1 : ∀ i, i < n → ∃ a : AddI, AddAt W (E i) a ∧ a.ok ∧ a.S.length + a.B.length < Rows.uptoBulk (D i) := fun i hi => add_read (hel i hi)
  haveI : Inhabited AddI := ⟨⟨0, 0, [], [], []⟩⟩
  obtain ⟨F, hF⟩ := Deep.choose_lt h1
  have hsum : ∀ k, k ≤ n → (allB F k).length ≤ 50 * k + Rows.uptoBulkAll ((List.range k).map D) := by
    intro k
    induction k with
    | zero => intro _; simp [allB]
    | succ k ih =>
      intro hk
      have := ih (by omega)
      obtain ⟨_, ⟨hN, hK⟩, hb⟩ := hF k (by omega)
      rw [allB_succ, List.length_append, List.range_succ, List.map_append, bulk_append]
      have hd : Rows.uptoBulk (D k) ≤ Rows.uptoBulkAll ((List.range n).map D) := bulks.one_of (List.mem_map.2 ⟨k, by simp; omega, rfl⟩)
      have hle := EN.addA_len (F k).kind (F k).N (F k).S (F k).B (F k).K hN (by omega) (by omega)
      have he : (F k).bytes.length = (addA (F k).kind (F k).N (F k).S (F k).B (F k).K).length := rfl
      simp only [List.map_cons, List.map_nil, Rows.uptoBulkAll]
      omega
  refine ⟨A, n, c, E, F, rfl, hE, hn, fun i hi => ⟨(hF i hi).1, (hF i hi).2.1, ?_⟩, ?_⟩
  · have hd : Rows.uptoBulk (D i) ≤ Rows.uptoBulkAll ((List.range n).map D) := bulks.one_of (List.mem_map.2 ⟨i, by simp; omega, rfl⟩)
    have := (hF i hi).2.2
    omega
  · have := hsum n (Nat.le_refl _)
    omega

end
end Go.Proofs.Ytpfkcejndjnbhaa.OP
