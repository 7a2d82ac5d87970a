/- The arguments opened: rows of bytes, lists of takes; and the functions that copy what came in. -/
import Derived.Test.YtpfkcejndjnbhaaTookK
import Derived.Test.YtpfkcejndjnbhaaBulk
import Derived.ProofKit
import Derived.OpenShut
import Derived.Deep.Slices
namespace Go.Proofs.Ytpfkcejndjnbhaa.OP
open Go.ChangeShapes Go.WideShapes Go.ChangeAt Go.RowKit Mem WM
open Go.Proofs.Ytpfkcejndjnbhaa.WD (RdT RdB u8_info own_mod LiveAt own_lower takeV)
open Go.Proofs.Ytpfkcejndjnbhaa.RD (RLive)
set_option linter.unusedVariables false
set_option linter.unusedSimpArgs false

theorem cell_lt {w : World} {a : Addr} {v : Value} (h : w.cell? a = some v) : a.block < w.heap.size := by
  unfold World.cell? at h
  split at h
  · split at h
    · simp at h
    · rename_i hs
      rcases Nat.lt_or_ge a.block w.heap.size with c | c
      · exact c
      · simp_all
  all_goals
    rcases Nat.lt_or_ge a.block w.heap.size with c | c
    · exact c
    · simp_all

theorem rds_mod {w w' : World} {size m : Nat} {A : Option Addr} {xs : List Value} (h : Rds w size A m xs) (hm : Mod no w w') : Rds w' size A m xs := by
  refine ⟨h.1, fun hp => ?_⟩
  obtain ⟨ad, rfl, hc⟩ := h.2 hp
  refine ⟨ad, rfl, fun j u hu => ?_⟩
  have := hc j u hu
  rw [← this]
  exact hm.cell (cell_lt this) (fun c => c)

set_option maxRecDepth 100000 in
theorem copied_r {w : World} {A : Option Addr} {c : Nat} {l : List UInt8} (hr : Rds w 1 A l.length (bvs l)) (hl : l.length ≤ 140737488355328) :
    Calls Try.prog 14 #[.slice A l.length c] w fun e w' => ∃ A' c', e = .returned (.slice A' l.length c') ∧ w'.ownsRow w.heap.size 5 1 (.slice A' l.length c') l.length (bvs l) ∧ Mod no w w' := by
  obtain ⟨i0, hi, hz0, hz1, hz2⟩ := info_parts u8_info
  have HR := Lib.hid hr
  have HL := Lib.hid hl
  clear hr hl
  go_enter Try.func14, Try.ntmps14
  go_wp2_with (
    at_builtin
    go_must (refine wpList_append _ rfl (.tmp 4) (.tmp 5) _ rfl w.heap.size 5 i0 (.int .u8 0) 1 1 Try.underlying23 hi hz0 hz1 hz2 rfl (by decide) (.slice none 0 0) 0 [] rfl ⟨rfl, .inl ⟨rfl, rfl⟩⟩ A l.length c (bvs l) rfl HR.out (bvs_one l) (by have := HL.out; simp only [maxLen]; omega) (by have := HL.out; omega) (Nat.le_refl _) ?_)
    intro v1 w1 hown hg hat hnn
    have M : Mod no w w1 := Mod.of_grown hg (fun k hk e => by simp [Value.ownBlock] at e)
    simp only [Nat.zero_add, List.nil_append] at hown
    obtain ⟨A', c', rfl⟩ := own_form hown
    have HO := Lib.hid hown
    have HM := Lib.hid M
    clear hown hg hat hnn M)
  go_ret
  exact ⟨A', c', rfl, HO.out, HM.out⟩

set_option maxRecDepth 100000 in
theorem ropen_r {w : World} {A : Option Addr} {c : Nat} {l : List UInt8} (hr : Rds w 1 A l.length (bvs l)) (hl : l.length ≤ 140737488355328) :
    Calls Try.prog 16 #[.slice A l.length c] w fun e w' => ∃ g gb, e = .returned (.pointer (some ⟨g, 0, none⟩)) ∧ w.heap.size ≤ g ∧ w.heap.size ≤ gb ∧ RLive w' g gb l 0 ∧ Mod no w w' := by
  obtain ⟨i0, hi, hz0, hz1, hz2⟩ := info_parts u8_info
  have HR := Lib.hid hr
  have HL := Lib.hid hl
  clear hr hl
  go_enter Try.func16, Try.ntmps16
  go_wp2_with (
    at_builtin
    go_must (refine wpList_append _ rfl (.tmp 10) (.tmp 11) _ rfl w.heap.size 5 i0 (.int .u8 0) 1 1 Try.underlying23 hi hz0 hz1 hz2 rfl (by decide) (.slice none 0 0) 0 [] rfl ⟨rfl, .inl ⟨rfl, rfl⟩⟩ A l.length c (bvs l) rfl (rds_mod HR.out ((Mod.refl _ _).alloc _)) (bvs_one l) (by have := HL.out; simp only [maxLen]; omega) (by have := HL.out; omega) (by simp) ?_)
    intro v1 w1 hown hg hat hnn
    have M : Mod no (w.alloc (.cells #[.slice none 0 0, .int .i64 0, .bool false, .int .i64 0, .int .i64 0] 52)) w1 := Mod.of_grown hg (fun k hk e => by simp [Value.ownBlock] at e)
    have hb := (Blk.new w 52 #[.slice none 0 0, .int .i64 0, .bool false, .int .i64 0, .int .i64 0]).mod M (fun c => c)
    simp only [Nat.zero_add, List.nil_append] at hown
    obtain ⟨A', c', rfl⟩ := own_form hown
    have HO := Lib.hid hown
    have HM := Lib.hid M
    have c0 := hb.cell 0
    have f0 := hb.free 0
    simp at c0
    clear hown hg hat hnn M)
  go_ret
  have hown := HO.out
  obtain ⟨gb, hgb, hR⟩ := RdB.of_own (own_lower hown (Nat.le_refl _))
  have hlc := own_cap hown
  refine ⟨w.heap.size, gb, rfl, Nat.le_refl _, hgb, ⟨A', c', by simpa using hb.put 0 _, hlc.1, hlc.2, ?_, Nat.zero_le _⟩, ?_⟩
  · exact hR.mod_other hb (by decide) ((Mod.refl (one w.heap.size) _).set (p := ⟨w.heap.size, 0, none⟩) (fun _ => rfl) _)
  · exact (((Mod.refl no w).alloc _).and_then HM.out).set (p := ⟨w.heap.size, 0, none⟩) (fun c => absurd c (Nat.lt_irrefl _)) _

/-! ### the arguments -/
section
variable {H : Type} {enc : TypeId × Value → H} {W : World} {d : DataW H} {v : Value} {p : List MemPlace}

theorem u8_cells : Try.prog.cellsOf 5 = 1 := by kernel_rfl

theorem u8_ofInt {n : Int} (h : (Lit.int .u8 n).wf = true) : ((UInt8.ofNat n.toNat).toNat : Int) = n := by
  have := bounds_u8 h
  rw [UInt8.toNat_ofNat']
  omega

set_option maxRecDepth 100000 in
/-- A row of bytes. -/
theorem open_bytes {base : Nat} (o : Value.okWide Try.prog W .any base 23 v) (h : DataW.Trod enc Try.prog W 0 (fun _ => true) true 23 v d p) :
    ∃ (A : Option Addr) (l : List UInt8) (c : Nat), v = .slice A l.length c ∧ Rds W 1 A l.length (bvs l) ∧ l.length + 1 ≤ Rows.uptoBulk d ∧ c ≤ maxLen := by
  obtain ⟨fuel, h⟩ := h
  obtain ⟨a0, l0, c0, rfl⟩ := okWide_slice Try.underlying23 o
  rcases open_ints Try.underlying23 Try.underlying5 u8_cells h with ⟨hc, hx⟩ | ⟨a, n0, n1, zs, hc, _, hlc, hm, hz, hx, hcell, hwf⟩
  · simp [Value.cells] at hc
    obtain ⟨rfl, rfl, rfl⟩ := hc
    refine ⟨none, [], 0, rfl, Rds.zero _ _ _, ?_, Nat.zero_le _⟩
    injection hx with hx1 hx2
    subst hx1
    simp [Rows.uptoBulk]
  · simp at hz
    simp [Value.cells] at hc
    obtain ⟨rfl, rfl, rfl⟩ := hc
    injection hx with hx1 hx2
    subst hx1
    have hlen : ((zs.take l0).map fun n => UInt8.ofNat n.toNat).length = l0 := by simp; omega
    refine ⟨some a, (zs.take l0).map fun n => UInt8.ofNat n.toNat, c0, by rw [hlen], ?_, ?_, hm⟩
    · rw [hlen]
      refine ⟨by simp [bvs]; omega, fun hp => ⟨a, rfl, fun j u hu => ?_⟩⟩
      have hj : j < l0 := by
        have := (List.getElem?_eq_some_iff.1 hu).1
        simp [bvs] at this; omega
      rw [hcell j (by omega), ← hu]
      simp only [bvs, List.map_map, List.getElem?_map, List.getElem?_take, if_pos hj]
      rw [List.getElem?_eq_getElem (by omega : j < zs.length)]
      simp only [Option.map_some, Function.comp, bv, List.getD, Option.getD, List.getElem?_eq_getElem (by omega : j < zs.length)]
      rw [u8_ofInt (hwf _ (List.getElem_mem _))]
    · rw [hlen]
      have := bulks.slice_len (lits (H := H) .u8 (zs.take l0)) (lits .u8 (zs.drop l0))
      have hl : (lits (H := H) .u8 (zs.take l0)).length = l0 := by simp [lits]; omega
      omega

/-- A list whose elements are sz cells each. -/
def Elems (W : World) (A : Option Addr) (n sz : Nat) (E : Nat → List Value) : Prop :=
  0 < n → ∃ b o, A = some ⟨b, o, none⟩ ∧ ∀ i, i < n → (E i).length = sz ∧ ∀ k, k < sz → W.cell? ⟨b, o + i * sz + k, none⟩ = (E i)[k]?

theorem Elems.mod {W W' : World} {A : Option Addr} {n sz : Nat} {E : Nat → List Value} (h : Elems W A n sz E) (hm : Mod no W W') : Elems W' A n sz E := fun hp => by
  obtain ⟨b, o, rfl, hc⟩ := h hp
  refine ⟨b, o, rfl, fun i hi => ⟨(hc i hi).1, fun k hk => ?_⟩⟩
  have h1 := (hc i hi).2 k hk
  obtain ⟨u, hu⟩ : ∃ u, (E i)[k]? = some u := ⟨_, List.getElem?_eq_getElem (by rw [(hc i hi).1]; exact hk)⟩
  rw [← h1]
  rw [hu] at h1
  exact hm.cell (cell_lt h1) (fun c => c)

set_option maxRecDepth 100000 in
theorem open_elems {t e : TypeId} {sz base : Nat} (ht : Try.prog.underlying t = some (.slice e)) (hc : Try.prog.cellsOf e = sz) (hsz : 0 < sz) (o : Value.okWide Try.prog W .any base t v)
    (h : DataW.Trod enc Try.prog W 0 (fun _ => true) true t v d p) :
    ∃ (A : Option Addr) (n c : Nat) (E : Nat → List Value) (D : Nat → DataW H) (Pl : Nat → List MemPlace) (f : Nat), v = .slice A n c ∧ Elems W A n sz E ∧ n ≤ maxLen ∧ n < Rows.uptoBulk d ∧ Rows.uptoBulkAll ((List.range n).map D) < Rows.uptoBulk d ∧
      ∀ i, i < n → DataW.trod enc Try.prog W 0 (fun _ => true) true f e (E i) = some (D i, Pl i) := by
  obtain ⟨fuel, h⟩ := h
  obtain ⟨a0, l0, c0, rfl⟩ := okWide_slice ht o
  rcases Deep.open_slice ht h with ⟨hc, hx⟩ | ⟨a, len, cap, m, n, D, Pl, hcs, _, hlc, hcap, hm, hx, hel⟩
  · simp [Value.cells] at hc
    obtain ⟨rfl, rfl, rfl⟩ := hc
    injection hx with hx1 hx2
    subst hx1
    exact ⟨none, 0, 0, fun _ => [], fun _ => .nil, fun _ => [], 0, rfl, fun h => absurd h (Nat.lt_irrefl _), Nat.zero_le _, by simp [Rows.uptoBulk], by simp [Rows.uptoBulk, Rows.uptoBulkAll], fun i hi => by omega⟩
  · simp [Value.cells] at hcs
    obtain ⟨rfl, rfl, rfl⟩ := hcs
    simp at hm
    subst hm
    injection hx with hx1 hx2
    subst hx1
    obtain ⟨E, hE⟩ := Deep.choose_lt hel
    refine ⟨some a, l0, m, E, D, Pl, n, rfl, fun hp => ?_, by omega, ?_, ?_, fun i hi => (hE i (by omega)).2⟩
    · have hsp : a.spot = none := by
        have h0 := World.cells?_some (hE 0 (by omega)).1
        rw [hc] at h0
        have h1 := h0.2.2 0 (by omega)
        have hl : 0 < (E 0).length := by rw [h0.2.1]; exact hsz
        rw [List.getElem?_eq_getElem hl, Nat.zero_mul] at h1
        simpa [Addr.add] using World.cell?_spot h1
      obtain ⟨b, ob, sp⟩ := a
      simp at hsp
      subst hsp
      refine ⟨b, ob, rfl, fun i hi => ?_⟩
      have h0 := World.cells?_some (hE i (by omega)).1
      rw [hc] at h0
      refine ⟨h0.2.1, fun k hk => ?_⟩
      have h1 := h0.2.2 k hk
      rw [Mem.add_plain, Mem.add_plain] at h1
      exact h1
    · have := bulks.slice_len ((List.range l0).map D) ((List.range (m - l0)).map fun j => D (l0 + j))
      simpa using this
    · exact bulks.slice_all _ _

theorem take_cells : Try.prog.cellsOf 69 = 3 := by kernel_rfl

theorem int_cell {t : TypeId} {k : IntKind} {f : Nat} {cs : List Value} {x : DataW H × List MemPlace} (ht : Try.prog.underlying t = some (.int k)) (h : DataW.trod enc Try.prog W 0 (fun _ => true) true f t cs = some x) : ∃ n, cs = [.int k n] ∧ (Lit.int k n).wf = true := by
  obtain ⟨n, rfl, _, hw⟩ := DataW.trod_int ht h
  exact ⟨n, rfl, hw⟩

set_option maxRecDepth 100000 in
theorem take_read {f : Nat} {cs : List Value} {x : DataW H × List MemPlace} (h : DataW.trod enc Try.prog W 0 (fun _ => true) true f 69 cs = some x) :
    ∃ (k : Int) (m : Nat) (n : Int), cs = [.int .i64 k, .int .u64 (m : Int), .int .i64 n] ∧ m < 18446744073709551616 ∧ -9223372036854775808 ≤ n ∧ n ≤ 9223372036854775807 := by
  obtain ⟨xs, n, _, _, hl, hxl, hf⟩ := DataW.trod_struct Try.underlying69 h
  rw [take_cells] at hl
  match cs, hl, xs, hxl with
  | [a, b, c], _, [y0, y1, y2], _ =>
    have g0 := hf 0 _ rfl
    have g1 := hf 1 _ rfl
    have g2 := hf 2 _ rfl
    have e3 : Try.prog.cellsOf 3 = 1 := by kernel_rfl
    have e28 : Try.prog.cellsOf 28 = 1 := by kernel_rfl
    simp [e3, e28] at g0 g1 g2
    obtain ⟨k, r0, w0⟩ := int_cell Try.underlying3 g0
    obtain ⟨m, r1, w1⟩ := int_cell Try.underlying28 g1
    obtain ⟨u, r2, w2⟩ := int_cell Try.underlying3 g2
    simp at r0 r1 r2
    subst r0 r1 r2
    have b1 := bounds_u64 w1
    have b2 := bounds_i64 w2
    exact ⟨k, m.toNat, u, by rw [show ((m.toNat : Nat) : Int) = m by omega], by omega, b2.1, b2.2⟩
end
end Go.Proofs.Ytpfkcejndjnbhaa.OP
