/- The arguments of the law KeepPlans, opened. -/
import Derived.Test.YtoncjoelkenjnaaRows
import Derived.Test.YtoncjoelkenjnaaPsC
import Derived.Test.YtoncjoelkenjnaaBulk
import Derived.ProofKit
import Derived.OpenShut
import Derived.Deep.Slices
namespace Go.Proofs.Ytoncjoelkenjnaa.PL
open Go.ChangeShapes Go.WideShapes Go.ChangeAt Go.RowKit Mem
set_option linter.unusedVariables false
set_option linter.unusedSimpArgs false

section
variable {H : Type} {enc : TypeId × Value → H} {W : World} {v : Value} {d : DataW H} {p : List MemPlace}
/-- A list whose elements are sz cells each. -/
def Elems (W : World) (A : Option Addr) (n sz : Nat) (E : Nat → List Value) : Prop :=
  0 < n → ∃ b o, A = some ⟨b, o, none⟩ ∧ ∀ i, i < n → (E i).length = sz ∧ ∀ k, k < sz → W.cell? ⟨b, o + i * sz + k, none⟩ = (E i)[k]?

set_option maxRecDepth 100000 in
theorem open_elems {t e : TypeId} {sz base : Nat} (ht : Try.prog.underlying t = some (.slice e)) (hc : Try.prog.cellsOf e = sz) (hsz : 0 < sz) (o : Value.okWide Try.prog W .any base t v)
    (h : DataW.Trod enc Try.prog W 0 (fun _ => true) true t v d p) :
    ∃ (A : Option Addr) (n c : Nat) (E : Nat → List Value) (D : Nat → DataW H) (Pl : Nat → List MemPlace) (f : Nat), v = .slice A n c ∧ Elems W A n sz E ∧ n ≤ maxLen ∧ n < Rows.uptoBulk d ∧ Rows.uptoBulkAll ((List.range n).map D) < Rows.uptoBulk d ∧
      ∀ i, i < n → DataW.trod enc Try.prog W 0 (fun _ => true) true f e (E i) = some (D i, Pl i) := by
  obtain ⟨fuel, h⟩ := h
  obtain ⟨a0, l0, c0, rfl⟩ := okWide_slice ht o
  rcases Deep.open_slice ht h with ⟨hc, hx⟩ | ⟨a, len, cap, m, n, D, Pl, hcs, _, hlc, hcap, hm, hx, hel⟩
  · simp [Value.cells] at hc
    obtain ⟨rfl, rfl, rfl⟩ := hc
    injection hx with hx1 hx2
    subst hx1
    exact ⟨none, 0, 0, fun _ => [], fun _ => .nil, fun _ => [], 0, rfl, fun h => absurd h (Nat.lt_irrefl _), Nat.zero_le _, by simp [Rows.uptoBulk], by simp [Rows.uptoBulk, Rows.uptoBulkAll], fun i hi => by omega⟩
  · simp [Value.cells] at hcs
    obtain ⟨rfl, rfl, rfl⟩ := hcs
    simp at hm
    subst hm
    injection hx with hx1 hx2
    subst hx1
    obtain ⟨E, hE⟩ := Deep.choose_lt hel
    refine ⟨some a, l0, m, E, D, Pl, n, rfl, fun hp => ?_, by omega, ?_, ?_, fun i hi => (hE i (by omega)).2⟩
    · have hsp : a.spot = none := by
        have h0 := World.cells?_some (hE 0 (by omega)).1
        rw [hc] at h0
        have h1 := h0.2.2 0 (by omega)
        have hl : 0 < (E 0).length := by rw [h0.2.1]; exact hsz
        rw [List.getElem?_eq_getElem hl, Nat.zero_mul] at h1
        simpa [Addr.add] using World.cell?_spot h1
      obtain ⟨b, ob, sp⟩ := a
      simp at hsp
      subst hsp
      refine ⟨b, ob, rfl, fun i hi => ?_⟩
      have h0 := World.cells?_some (hE i (by omega)).1
      rw [hc] at h0
      refine ⟨h0.2.1, fun k hk => ?_⟩
      have h1 := h0.2.2 k hk
      rw [Mem.add_plain, Mem.add_plain] at h1
      exact h1
    · have := bulks.slice_len ((List.range l0).map D) ((List.range (m - l0)).map fun j => D (l0 + j))
      simpa using this
    · exact bulks.slice_all _ _


end
theorem list7 {α : Type} {l : List α} (h : l.length = 7) : ∃ a b c d e f g, l = [a, b, c, d, e, f, g] := by
  match l, h with
  | [a, b, c, d, e, f, g], _ => exact ⟨a, b, c, d, e, f, g, rfl⟩
theorem b16 {n : Int} (h : (Lit.int .i16 n).wf = true) : n ≤ 32767 := by
  simp [Lit.wf] at h
  have h2 : IntKind.i16.max = 32767 := by decide
  first | omega | (rw [h2] at h; exact h.2)
theorem b64 {n : Int} (h : (Lit.int .i64 n).wf = true) : n ≤ 9223372036854775807 := by
  simp [Lit.wf] at h
  have h2 : IntKind.i64.max = 9223372036854775807 := by decide
  first | omega | (rw [h2] at h; exact h.2)
theorem open_rule {H : Type} {enc : TypeId × Value → H} {W : World} {base : Nat} {v0 : Value} {d : DataW H} {p : List MemPlace} (o : Value.okWide Try.prog W .any base 50 v0) (h : DataW.Trod enc Try.prog W 0 (fun _ => true) true 50 v0 d p) :
    ∃ l h d k m y v : Int, v0 = rv l h d k m y v ∧ l ≤ 32767 ∧ h ≤ 32767 ∧ d ≤ 32767 ∧ k ≤ 32767 ∧ m ≤ 32767 ∧ y ≤ 32767 ∧ v ≤ 9223372036854775807 := by
  obtain ⟨cs, rfl, hl⟩ := okWide_struct Try.underlying50 o
  rw [show Try.prog.cellsOf 50 = 7 by kernel_rfl] at hl
  obtain ⟨l⟩ := cs
  obtain ⟨c0, c1, c2, c3, c4, c5, c6, rfl⟩ := list7 hl
  obtain ⟨fuel, hf⟩ := h
  obtain ⟨xs, n, _, _, _, hlen, hel⟩ := DataW.trod_struct Try.underlying50 hf
  have k16 : Try.prog.cellsOf 36 = 1 := by kernel_rfl
  have k64 : Try.prog.cellsOf 2 = 1 := by kernel_rfl
  have hs : ∀ i : Nat, i < 7 → ∃ x, xs[i]? = some x := fun i hi => ⟨_, List.getElem?_eq_getElem (by rw [hlen]; exact hi)⟩
  obtain ⟨x0, hx0⟩ := hs 0 (by decide)
  have e0 := hel 0 _ rfl
  rw [hx0] at e0
  simp only [Value.cells, List.drop_succ_cons, List.drop_zero, k16, List.take_succ_cons, List.take_zero] at e0
  obtain ⟨n0, q0, _, w0⟩ := DataW.trod_int Try.underlying36 e0
  injection q0 with q0 _
  subst q0
  obtain ⟨x1, hx1⟩ := hs 1 (by decide)
  have e1 := hel 1 _ rfl
  rw [hx1] at e1
  simp only [Value.cells, List.drop_succ_cons, List.drop_zero, k16, List.take_succ_cons, List.take_zero] at e1
  obtain ⟨n1, q1, _, w1⟩ := DataW.trod_int Try.underlying36 e1
  injection q1 with q1 _
  subst q1
  obtain ⟨x2, hx2⟩ := hs 2 (by decide)
  have e2 := hel 2 _ rfl
  rw [hx2] at e2
  simp only [Value.cells, List.drop_succ_cons, List.drop_zero, k16, List.take_succ_cons, List.take_zero] at e2
  obtain ⟨n2, q2, _, w2⟩ := DataW.trod_int Try.underlying36 e2
  injection q2 with q2 _
  subst q2
  obtain ⟨x3, hx3⟩ := hs 3 (by decide)
  have e3 := hel 3 _ rfl
  rw [hx3] at e3
  simp only [Value.cells, List.drop_succ_cons, List.drop_zero, k16, List.take_succ_cons, List.take_zero] at e3
  obtain ⟨n3, q3, _, w3⟩ := DataW.trod_int Try.underlying36 e3
  injection q3 with q3 _
  subst q3
  obtain ⟨x4, hx4⟩ := hs 4 (by decide)
  have e4 := hel 4 _ rfl
  rw [hx4] at e4
  simp only [Value.cells, List.drop_succ_cons, List.drop_zero, k16, List.take_succ_cons, List.take_zero] at e4
  obtain ⟨n4, q4, _, w4⟩ := DataW.trod_int Try.underlying36 e4
  injection q4 with q4 _
  subst q4
  obtain ⟨x5, hx5⟩ := hs 5 (by decide)
  have e5 := hel 5 _ rfl
  rw [hx5] at e5
  simp only [Value.cells, List.drop_succ_cons, List.drop_zero, k16, List.take_succ_cons, List.take_zero] at e5
  obtain ⟨n5, q5, _, w5⟩ := DataW.trod_int Try.underlying36 e5
  injection q5 with q5 _
  subst q5
  obtain ⟨x6, hx6⟩ := hs 6 (by decide)
  have e6 := hel 6 _ rfl
  rw [hx6] at e6
  simp only [Value.cells, List.drop_succ_cons, List.drop_zero, k64, List.take_succ_cons, List.take_zero] at e6
  obtain ⟨n6, q6, _, w6⟩ := DataW.trod_int Try.underlying2 e6
  injection q6 with q6 _
  subst q6
  exact ⟨n0, n1, n2, n3, n4, n5, n6, rfl, b16 w0, b16 w1, b16 w2, b16 w3, b16 w4, b16 w5, b64 w6⟩
theorem shot_cells : Try.prog.cellsOf 56 = 2 := by kernel_rfl
set_option maxRecDepth 100000 in
theorem shot_read {H : Type} {enc : TypeId × Value → H} {W : World} {f : Nat} {cs : List Value} {x : DataW H} {pl : List MemPlace} (h : DataW.trod enc Try.prog W 0 (fun _ => true) true f 56 cs = some (x, pl)) :
    ∃ (s : ByteArray) (t : Int), cs = [.string s, .int .i64 t] ∧ 2 ≤ Rows.uptoBulk x := by
  obtain ⟨xs, n, _, hx, hl, hxl, hf⟩ := DataW.trod_struct Try.underlying56 h
  rw [shot_cells] at hl
  have hxl2 : xs.length = 2 := hxl
  have k9 : Try.prog.cellsOf 9 = 1 := by kernel_rfl
  have k64 : Try.prog.cellsOf 2 = 1 := by kernel_rfl
  have hb : 2 ≤ Rows.uptoBulk x := by
    have hx1 := congrArg Prod.fst hx
    simp only at hx1
    rw [hx1]
    have := bulks.len_all (xs.map (·.1))
    rw [List.length_map, hxl2] at this
    simp only [Rows.uptoBulk]
    omega
  match cs, hl, xs, hxl2 with
  | [c0, c1], hl, [y0, y1], _ =>
    have g0 := hf 0 _ rfl
    have g1 := hf 1 _ rfl
    simp [k9, k64] at g0 g1
    obtain ⟨t, r1, _⟩ := DataW.trod_int Try.underlying2 g1
    obtain ⟨s, r0, _⟩ := DataW.trod_string Try.underlying9 g0
    simp at r0 r1
    subst r0 r1
    exact ⟨s, t, rfl, hb⟩
theorem two_all {H : Type} : ∀ (L : List (DataW H)), (∀ d ∈ L, 2 ≤ Rows.uptoBulk d) → 2 * L.length ≤ Rows.uptoBulkAll L := by
  intro L
  induction L with
  | nil => intro _; simp [Rows.uptoBulkAll]
  | cons d L ih =>
    intro h
    have h1 := h d (by simp)
    have h2 := ih (fun x hx => h x (List.mem_cons_of_mem _ hx))
    simp only [Rows.uptoBulkAll, List.length_cons]
    omega
set_option maxRecDepth 100000 in
theorem plans_core (H : Type) (enc : TypeId × Value → H) (W : World) (base : Nat) (v0 : Value) (d0 : DataW H) (p0 : List MemPlace) (v1 : Value) (d1 : DataW H) (p1 : List MemPlace)
    (o0 : Value.okWide Try.prog W .any base 48 v0) (o1 : Value.okWide Try.prog W .any base 50 v1)
    (h0 : DataW.Trod enc Try.prog W 0 (fun _ => true) true 48 v0 d0 p0) (h1 : DataW.Trod enc Try.prog W 0 (fun _ => true) true 50 v1 d1 p1)
    (hk : Rows.uptoSmall H ([d0, d1] ++ []) = true) :
    Calls Try.prog 7 #[v0, v1] W fun e w' => e = .returned (.bool true) ∧ Below W.heap.size W w' := by
  have hb := bulks.most hk
  simp only [List.cons_append, List.nil_append, Rows.uptoBulkAll] at hb
  obtain ⟨A, n, c, E, D, Pl, f, rfl, hE, _, hn, hall, hr⟩ := open_elems Try.underlying48 shot_cells (by decide) o0 h0
  obtain ⟨l, h, d, k, m, y, v, rfl, r1, r2, r3, r4, r5, r6, r7⟩ := open_rule o1 h1
  have hx : ∀ i, i < n → ∃ st : ByteArray × Int, E i = [.string st.1, .int .i64 st.2] := fun i hi => by
    obtain ⟨s, t, e, _⟩ := shot_read (hr i hi)
    exact ⟨(s, t), e⟩
  obtain ⟨T, hT⟩ := Deep.choose_lt hx
  have hn2 : 2 * n ≤ Rows.uptoBulkAll ((List.range n).map D) := by
    have h2 := two_all ((List.range n).map D) (fun x hx => by
      obtain ⟨i, hi, rfl⟩ := List.mem_map.1 hx
      obtain ⟨_, _, _, h3⟩ := shot_read (hr i (List.mem_range.1 hi))
      exact h3)
    simpa using h2
  have hsh : ∃ b o, ShA W A b o n (fun i => (T i).1) (fun i => (T i).2) := by
    rcases Nat.eq_zero_or_pos n with h0 | h0
    · exact ⟨0, 0, fun h => by omega, fun i hi => by omega, fun i hi => by omega⟩
    · obtain ⟨b, o, hA, hc⟩ := hE h0
      refine ⟨b, o, fun _ => hA, fun i hi => ?_, fun i hi => ?_⟩
      · have h2 := (hc i hi).2 0 (by decide)
        rw [hT i hi, Nat.add_zero] at h2
        exact h2
      · have h2 := (hc i hi).2 1 (by decide)
        rw [hT i hi] at h2
        exact h2
  obtain ⟨b, o, hs⟩ := hsh
  refine (plans_law hs (by omega) r1 r2 r3 r4 r5 r6 r7).mono ?_
  rintro e w' ⟨he, M⟩
  exact ⟨he, M.below (Nat.le_refl _) (fun k hk c => c.elim)⟩
end Go.Proofs.Ytoncjoelkenjnaa.PL
