/- The program's Parse, walked (printed by keepparse2.py). -/
import Derived.Test.YtoncjoelkenjnaaDoorKrE
namespace Go.Proofs.YtoncjoelkenjnaaDoor.KR
open Go.RowKit Mem HD
set_option linter.unusedVariables false
set_option linter.unusedSimpArgs false

theorem w16_in (n : Int) : I16 (w16 n) := by
  unfold w16
  simp [IntKind.wrap, IntKind.bits, IntKind.signed]
  split <;> omega
theorem VW.mod {w w' : World} (h : VW w) (m : Mod no w w') : VW w' := by
  have hb := m.below (Nat.le_refl _) (fun _ _ c => c.elim)
  obtain ⟨⟨t, p, h1⟩, ⟨t', p', h2⟩⟩ := h
  exact ⟨⟨t, p, Go.Joins.var_stays (g := 1) (by kernel_rfl) h1 hb (Nat.le_refl _)⟩, ⟨t', p', Go.Joins.var_stays (g := 2) (by kernel_rfl) h2 hb (Nat.le_refl _)⟩⟩
theorem setW_in {q : Rule} (h : q.In) {f : Bytes} {n : Int} (hn : I64 n) : (setW f n q).In := by
  have h1 := h.l; have h2 := h.h; have h3 := h.d; have h4 := h.w; have h5 := h.m; have h6 := h.y; have h7 := h.x
  have hw := w16_in n
  unfold setW
  repeat' split
  all_goals (constructor <;> assumption)
theorem cuts_size : ∀ (l : Bytes), ∀ y ∈ cuts l, y.length ≤ l.length
  | [], y, hy => by simp [cuts] at hy; subst hy; simp
  | b :: t, y, hy => by
    have ih := cuts_size t
    unfold cuts at hy
    split at hy
    · simp at hy
      rcases hy with rfl | hy
      · simp
      · have := ih y hy; simp; omega
    · cases hc : cuts t with
      | nil => exact absurd hc (cuts_ne t)
      | cons z r =>
        rw [hc] at hy
        simp [onto] at hy
        rcases hy with rfl | hy
        · have := ih z (by rw [hc]; simp); simp; omega
        · have := ih y (by rw [hc]; simp [hy]); simp; omega
theorem cuts_length : ∀ l : Bytes, (cuts l).length ≤ l.length + 1
  | [] => by simp [cuts]
  | b :: t => by
    have := cuts_length t
    unfold cuts
    split
    · simp; omega
    · cases hc : cuts t with
      | nil => exact absurd hc (cuts_ne t)
      | cons z r => rw [hc] at this; simp [onto] at this ⊢; omega
theorem range_of {w : World} {b : Nat} {t : TypeId} {C : Array Value} (h : Blk w b t C) : w.rangeAt b 0 C.toList := fun j v hv => by
  rw [h.cell, Nat.zero_add]; simpa using hv
theorem ret_cell {P : Program} {fn : Func} {p u : Tmp} {ty : TypeId} (h : fn.results = #[.cell p ty, .tmp u]) (tmps : Array Value) (w : World) (b : Nat) (C : Array Value) (d : TypeDesc) (t : TypeId) (hp : tmps.getD p undef = .pointer (some ⟨b, 0, none⟩)) (hc : Blk w b t C)
    (hu : P.underlying ty = some d) (hd : d.isRow = true) (hi : (P.info? ty).map (·.size) = some C.size) : (results fn tmps).run P w = .ok (.tuple #[.agg C, tmps.getD u undef]) w := by
  rw [results_cell_tmp h, hp]
  have := run_loadVar_mid (P := P) w b 0 ty C.toList d (range_of hc) hu hd (by simpa using hi)
  simp only [asAddr, Sem.run_pure, Result.andThen_ok, this]
theorem rule_info : (Tryd.prog.info? 24).map (·.size) = some 7 := by kernel_rfl
theorem atW_cases (R : Nat) (f : Bytes) : (∃ k, k < 6 ∧ atW R f = .pointer (some ⟨R, k, none⟩) ∧ ∀ (n : Int) (q : Rule), Rc (setW f n q) = (Rc q).setIfInBounds k (.int .i16 (w16 n))) ∨ (atW R f = .pointer none ∧ ∀ (n : Int) (q : Rule), Rc (setW f n q) = (Rc q).setIfInBounds 6 (.int .i64 n)) := by
  by_cases c0 : f = wLast
  · exact .inl ⟨0, by decide, by unfold atW; rw [if_pos c0], fun n q => by unfold setW; rw [if_pos c0]; rfl⟩
  by_cases c1 : f = wHours
  · exact .inl ⟨1, by decide, by unfold atW; rw [if_neg c0]; rw [if_pos c1], fun n q => by unfold setW; rw [if_neg c0]; rw [if_pos c1]; rfl⟩
  by_cases c2 : f = wDays
  · exact .inl ⟨2, by decide, by unfold atW; rw [if_neg c0]; rw [if_neg c1]; rw [if_pos c2], fun n q => by unfold setW; rw [if_neg c0]; rw [if_neg c1]; rw [if_pos c2]; rfl⟩
  by_cases c3 : f = wWeeks
  · exact .inl ⟨3, by decide, by unfold atW; rw [if_neg c0]; rw [if_neg c1]; rw [if_neg c2]; rw [if_pos c3], fun n q => by unfold setW; rw [if_neg c0]; rw [if_neg c1]; rw [if_neg c2]; rw [if_pos c3]; rfl⟩
  by_cases c4 : f = wMonths
  · exact .inl ⟨4, by decide, by unfold atW; rw [if_neg c0]; rw [if_neg c1]; rw [if_neg c2]; rw [if_neg c3]; rw [if_pos c4], fun n q => by unfold setW; rw [if_neg c0]; rw [if_neg c1]; rw [if_neg c2]; rw [if_neg c3]; rw [if_pos c4]; rfl⟩
  by_cases c5 : f = wYears
  · exact .inl ⟨5, by decide, by unfold atW; rw [if_neg c0]; rw [if_neg c1]; rw [if_neg c2]; rw [if_neg c3]; rw [if_neg c4]; rw [if_pos c5], fun n q => by unfold setW; rw [if_neg c0]; rw [if_neg c1]; rw [if_neg c2]; rw [if_neg c3]; rw [if_neg c4]; rw [if_pos c5]; rfl⟩
  exact .inr ⟨by unfold atW; rw [if_neg c0, if_neg c1, if_neg c2, if_neg c3, if_neg c4, if_neg c5], fun n q => by unfold setW; rw [if_neg c0, if_neg c1, if_neg c2, if_neg c3, if_neg c4, if_neg c5]; rfl⟩
theorem rc_get (q : Rule) {k : Nat} (hk : k < 6) : ∃ n : Int, (Rc q)[k]? = some (.int .i16 n) := by
  obtain rfl | rfl | rfl | rfl | rfl | rfl : k = 0 ∨ k = 1 ∨ k = 2 ∨ k = 3 ∨ k = 4 ∨ k = 5 := by omega
  all_goals exact ⟨_, rfl⟩
def set7 (w : World) (g : Nat) (b0 b1 b2 b3 b4 b5 b6 : Value) : World := ((((((w.setCell ⟨g, 0, none⟩ b0).setCell ⟨g, 1, none⟩ b1).setCell ⟨g, 2, none⟩ b2).setCell ⟨g, 3, none⟩ b3).setCell ⟨g, 4, none⟩ b4).setCell ⟨g, 5, none⟩ b5).setCell ⟨g, 6, none⟩ b6
theorem put7 {w : World} {g : Nat} {t : TypeId} {a0 a1 a2 a3 a4 a5 a6 : Value} (h : Blk w g t #[a0, a1, a2, a3, a4, a5, a6]) (b0 b1 b2 b3 b4 b5 b6 : Value) : Blk (set7 w g b0 b1 b2 b3 b4 b5 b6) g t #[b0, b1, b2, b3, b4, b5, b6] := by
  have h0 := h.put 0 b0
  rw [show #[a0, a1, a2, a3, a4, a5, a6].setIfInBounds 0 b0 = #[b0, a1, a2, a3, a4, a5, a6] from by simp] at h0
  have h1 := h0.put 1 b1
  rw [show #[b0, a1, a2, a3, a4, a5, a6].setIfInBounds 1 b1 = #[b0, b1, a2, a3, a4, a5, a6] from by simp] at h1
  have h2 := h1.put 2 b2
  rw [show #[b0, b1, a2, a3, a4, a5, a6].setIfInBounds 2 b2 = #[b0, b1, b2, a3, a4, a5, a6] from by simp] at h2
  have h3 := h2.put 3 b3
  rw [show #[b0, b1, b2, a3, a4, a5, a6].setIfInBounds 3 b3 = #[b0, b1, b2, b3, a4, a5, a6] from by simp] at h3
  have h4 := h3.put 4 b4
  rw [show #[b0, b1, b2, b3, a4, a5, a6].setIfInBounds 4 b4 = #[b0, b1, b2, b3, b4, a5, a6] from by simp] at h4
  have h5 := h4.put 5 b5
  rw [show #[b0, b1, b2, b3, b4, a5, a6].setIfInBounds 5 b5 = #[b0, b1, b2, b3, b4, b5, a6] from by simp] at h5
  have h6 := h5.put 6 b6
  rw [show #[b0, b1, b2, b3, b4, b5, a6].setIfInBounds 6 b6 = #[b0, b1, b2, b3, b4, b5, b6] from by simp] at h6
  exact h6
theorem mod7 {w w4 : World} {g : Nat} (m : Mod no w w4) (hg : w.heap.size ≤ g) (b0 b1 b2 b3 b4 b5 b6 : Value) : Mod no w (set7 w4 g b0 b1 b2 b3 b4 b5 b6) := by
  have hn : ∀ o, (⟨g, o, none⟩ : Addr).block < w.heap.size → no (⟨g, o, none⟩ : Addr).block := fun o h => absurd h (by simp; omega)
  exact ((((((m.set (hn 0) b0).set (hn 1) b1).set (hn 2) b2).set (hn 3) b3).set (hn 4) b4).set (hn 5) b5).set (hn 6) b6
/-- What stands at the head of a round of Parse. -/
def FI (w : World) (l : Bytes) (v7 : Value) (wr : World) : Prop := ∃ (i : Nat) (q : Rule), i ≤ (cuts l).length + 1 ∧ v7 = .int .i64 (i : Int) ∧ q.In ∧ foldP ((cuts l).drop i) q = parseP l ∧
  Blk wr w.heap.size 24 #[.int .i16 0, .int .i16 0, .int .i16 0, .int .i16 0, .int .i16 0, .int .i16 0, .int .i64 0] ∧ Blk wr (w.heap.size + 1) 24 (Rc q) ∧ MapAt wr (w.heap.size + 1 + 1) (w.heap.size + 1) ∧ Blk wr (w.heap.size + 1 + 1 + 1) 9 (fsA l) ∧ Mod no w wr
def PE (w : World) (l : Bytes) (e : Ending) (w' : World) : Prop := Mod no w w' ∧ ∃ (r : Rule) (c : Int), e = .returned (.tuple #[Rv r.l r.h r.d r.w r.m r.y r.x, .int .i64 c]) ∧ Answer l r c
theorem meas {L i : Nat} (h : i + 1 < L) {v : Int} (hv : v = (i : Int) + 2) : L + 1 - (intOf (.int .i64 v)).toNat < L + 1 - (intOf (.int .i64 (i : Int))).toNat := by
  subst hv
  simp only [intOf]
  omega
theorem fold_short {fs : List Bytes} {i : Nat} (h : fs.length ≤ i + 1) (q : Rule) : foldP (fs.drop i) q = some q := by
  cases hd : fs.drop i with
  | nil => rfl
  | cons f t =>
    have hl := congrArg List.length hd
    simp at hl
    obtain rfl : t = [] := List.eq_nil_of_length_eq_zero (by omega)
    rfl
set_option maxRecDepth 100000 in
set_option maxHeartbeats 8000000 in
theorem parse_p {w : World} {l : Bytes} {m : Int} (hl : l.length ≤ 1048600) (hT : TW w) (hV : VW w) (hm : w.cell? ⟨3, 0, none⟩ = some (.int .i64 m)) : Calls Tryd.prog 7 #[.string (sv l)] w fun e w' => PE w l e w' := by
  have mk := run_makeMap (P := Tryd.prog) 41 ((w.alloc (.cells #[.int .i16 0, .int .i16 0, .int .i16 0, .int .i16 0, .int .i16 0, .int .i16 0, .int .i64 0] 24)).alloc (.cells #[.int .i16 0, .int .i16 0, .int .i16 0, .int .i16 0, .int .i16 0, .int .i16 0, .int .i64 0] 24))
  have i0 := ins (W := ((w.alloc (.cells #[.int .i16 0, .int .i16 0, .int .i16 0, .int .i16 0, .int .i16 0, .int .i16 0, .int .i64 0] 24)).alloc (.cells #[.int .i16 0, .int .i16 0, .int .i16 0, .int .i16 0, .int .i16 0, .int .i16 0, .int .i64 0] 24))) (r := w.heap.size + 1 + 1) (by simp) #[] 0 ⟨#[108, 97, 115, 116]⟩ (.pointer (some ⟨w.heap.size + 1, 0, none⟩)) (by rfl)
  have i1 := ins (W := ((w.alloc (.cells #[.int .i16 0, .int .i16 0, .int .i16 0, .int .i16 0, .int .i16 0, .int .i16 0, .int .i64 0] 24)).alloc (.cells #[.int .i16 0, .int .i16 0, .int .i16 0, .int .i16 0, .int .i16 0, .int .i16 0, .int .i64 0] 24))) (r := w.heap.size + 1 + 1) (by simp) #[{ key := .string ⟨#[108, 97, 115, 116]⟩, val := .pointer (some ⟨w.heap.size + 1, 0, none⟩), born := 0 }] 1 ⟨#[104, 111, 117, 114, 115]⟩ (.pointer (some ⟨w.heap.size + 1, 1, none⟩)) (by rfl)
  have i2 := ins (W := ((w.alloc (.cells #[.int .i16 0, .int .i16 0, .int .i16 0, .int .i16 0, .int .i16 0, .int .i16 0, .int .i64 0] 24)).alloc (.cells #[.int .i16 0, .int .i16 0, .int .i16 0, .int .i16 0, .int .i16 0, .int .i16 0, .int .i64 0] 24))) (r := w.heap.size + 1 + 1) (by simp) #[{ key := .string ⟨#[108, 97, 115, 116]⟩, val := .pointer (some ⟨w.heap.size + 1, 0, none⟩), born := 0 }, { key := .string ⟨#[104, 111, 117, 114, 115]⟩, val := .pointer (some ⟨w.heap.size + 1, 1, none⟩), born := 1 }] 2 ⟨#[100, 97, 121, 115]⟩ (.pointer (some ⟨w.heap.size + 1, 2, none⟩)) (by rfl)
  have i3 := ins (W := ((w.alloc (.cells #[.int .i16 0, .int .i16 0, .int .i16 0, .int .i16 0, .int .i16 0, .int .i16 0, .int .i64 0] 24)).alloc (.cells #[.int .i16 0, .int .i16 0, .int .i16 0, .int .i16 0, .int .i16 0, .int .i16 0, .int .i64 0] 24))) (r := w.heap.size + 1 + 1) (by simp) #[{ key := .string ⟨#[108, 97, 115, 116]⟩, val := .pointer (some ⟨w.heap.size + 1, 0, none⟩), born := 0 }, { key := .string ⟨#[104, 111, 117, 114, 115]⟩, val := .pointer (some ⟨w.heap.size + 1, 1, none⟩), born := 1 }, { key := .string ⟨#[100, 97, 121, 115]⟩, val := .pointer (some ⟨w.heap.size + 1, 2, none⟩), born := 2 }] 3 ⟨#[119, 101, 101, 107, 115]⟩ (.pointer (some ⟨w.heap.size + 1, 3, none⟩)) (by rfl)
  have i4 := ins (W := ((w.alloc (.cells #[.int .i16 0, .int .i16 0, .int .i16 0, .int .i16 0, .int .i16 0, .int .i16 0, .int .i64 0] 24)).alloc (.cells #[.int .i16 0, .int .i16 0, .int .i16 0, .int .i16 0, .int .i16 0, .int .i16 0, .int .i64 0] 24))) (r := w.heap.size + 1 + 1) (by simp) #[{ key := .string ⟨#[108, 97, 115, 116]⟩, val := .pointer (some ⟨w.heap.size + 1, 0, none⟩), born := 0 }, { key := .string ⟨#[104, 111, 117, 114, 115]⟩, val := .pointer (some ⟨w.heap.size + 1, 1, none⟩), born := 1 }, { key := .string ⟨#[100, 97, 121, 115]⟩, val := .pointer (some ⟨w.heap.size + 1, 2, none⟩), born := 2 }, { key := .string ⟨#[119, 101, 101, 107, 115]⟩, val := .pointer (some ⟨w.heap.size + 1, 3, none⟩), born := 3 }] 4 ⟨#[109, 111, 110, 116, 104, 115]⟩ (.pointer (some ⟨w.heap.size + 1, 4, none⟩)) (by rfl)
  have i5 := ins (W := ((w.alloc (.cells #[.int .i16 0, .int .i16 0, .int .i16 0, .int .i16 0, .int .i16 0, .int .i16 0, .int .i64 0] 24)).alloc (.cells #[.int .i16 0, .int .i16 0, .int .i16 0, .int .i16 0, .int .i16 0, .int .i16 0, .int .i64 0] 24))) (r := w.heap.size + 1 + 1) (by simp) #[{ key := .string ⟨#[108, 97, 115, 116]⟩, val := .pointer (some ⟨w.heap.size + 1, 0, none⟩), born := 0 }, { key := .string ⟨#[104, 111, 117, 114, 115]⟩, val := .pointer (some ⟨w.heap.size + 1, 1, none⟩), born := 1 }, { key := .string ⟨#[100, 97, 121, 115]⟩, val := .pointer (some ⟨w.heap.size + 1, 2, none⟩), born := 2 }, { key := .string ⟨#[119, 101, 101, 107, 115]⟩, val := .pointer (some ⟨w.heap.size + 1, 3, none⟩), born := 3 }, { key := .string ⟨#[109, 111, 110, 116, 104, 115]⟩, val := .pointer (some ⟨w.heap.size + 1, 4, none⟩), born := 4 }] 5 ⟨#[121, 101, 97, 114, 115]⟩ (.pointer (some ⟨w.heap.size + 1, 5, none⟩)) (by rfl)
  have HL := Lib.hid hl
  have HT := Lib.hid (fun (W : World) (h : Mod no w W) => hT.mod h)
  have HV := Lib.hid (fun (W : World) (h : Mod no w W) => hV.mod h)
  have hlt : 3 < w.heap.size := Lib.lt_of_cell hm
  have HM := Lib.hid (fun (W : World) (h : Mod no w W) => (h.cell (p := ⟨3, 0, none⟩) hlt (fun c => c)).trans hm)
  clear hT hV hm hlt hl
  go_enter Tryd.func7, Tryd.ntmps7
  go_wp2_with (go_at_call 15; refine (split_p HL.out (HM.out _ ?_)).mono ?_; exact (((Mod.refl no w).alloc _).alloc _).alloc _; rintro e w3 ⟨rfl, rfl⟩)
  clear mk i0 i1 i2 i3 i4 i5
  have B0 := Blk.new w 24 #[.int .i16 0, .int .i16 0, .int .i16 0, .int .i16 0, .int .i16 0, .int .i16 0, .int .i64 0]
  have B1 := Blk.new_at (n := w.heap.size + 1) (w.alloc (.cells #[.int .i16 0, .int .i16 0, .int .i16 0, .int .i16 0, .int .i16 0, .int .i16 0, .int .i64 0] 24)) 24 #[.int .i16 0, .int .i16 0, .int .i16 0, .int .i16 0, .int .i16 0, .int .i16 0, .int .i64 0] (by simp)
  have B2 : MapAt (((w.alloc (.cells #[.int .i16 0, .int .i16 0, .int .i16 0, .int .i16 0, .int .i16 0, .int .i16 0, .int .i64 0] 24)).alloc (.cells #[.int .i16 0, .int .i16 0, .int .i16 0, .int .i16 0, .int .i16 0, .int .i16 0, .int .i64 0] 24)).alloc (.map #[{ key := .string ⟨#[108, 97, 115, 116]⟩, val := .pointer (some ⟨w.heap.size + 1, 0, none⟩), born := 0 }, { key := .string ⟨#[104, 111, 117, 114, 115]⟩, val := .pointer (some ⟨w.heap.size + 1, 1, none⟩), born := 1 }, { key := .string ⟨#[100, 97, 121, 115]⟩, val := .pointer (some ⟨w.heap.size + 1, 2, none⟩), born := 2 }, { key := .string ⟨#[119, 101, 101, 107, 115]⟩, val := .pointer (some ⟨w.heap.size + 1, 3, none⟩), born := 3 }, { key := .string ⟨#[109, 111, 110, 116, 104, 115]⟩, val := .pointer (some ⟨w.heap.size + 1, 4, none⟩), born := 4 }, { key := .string ⟨#[121, 101, 97, 114, 115]⟩, val := .pointer (some ⟨w.heap.size + 1, 5, none⟩), born := 5 }] 6)) (w.heap.size + 1 + 1) (w.heap.size + 1) := by
    have h := heap_alloc_new ((w.alloc (.cells #[.int .i16 0, .int .i16 0, .int .i16 0, .int .i16 0, .int .i16 0, .int .i16 0, .int .i64 0] 24)).alloc (.cells #[.int .i16 0, .int .i16 0, .int .i16 0, .int .i16 0, .int .i16 0, .int .i16 0, .int .i64 0] 24)) (.map #[{ key := .string ⟨#[108, 97, 115, 116]⟩, val := .pointer (some ⟨w.heap.size + 1, 0, none⟩), born := 0 }, { key := .string ⟨#[104, 111, 117, 114, 115]⟩, val := .pointer (some ⟨w.heap.size + 1, 1, none⟩), born := 1 }, { key := .string ⟨#[100, 97, 121, 115]⟩, val := .pointer (some ⟨w.heap.size + 1, 2, none⟩), born := 2 }, { key := .string ⟨#[119, 101, 101, 107, 115]⟩, val := .pointer (some ⟨w.heap.size + 1, 3, none⟩), born := 3 }, { key := .string ⟨#[109, 111, 110, 116, 104, 115]⟩, val := .pointer (some ⟨w.heap.size + 1, 4, none⟩), born := 4 }, { key := .string ⟨#[121, 101, 97, 114, 115]⟩, val := .pointer (some ⟨w.heap.size + 1, 5, none⟩), born := 5 }] 6)
    simp only [World.size_alloc] at h
    exact h
  have B3 := Blk.new_at (n := w.heap.size + 1 + 1 + 1) (((w.alloc (.cells #[.int .i16 0, .int .i16 0, .int .i16 0, .int .i16 0, .int .i16 0, .int .i16 0, .int .i64 0] 24)).alloc (.cells #[.int .i16 0, .int .i16 0, .int .i16 0, .int .i16 0, .int .i16 0, .int .i16 0, .int .i64 0] 24)).alloc (.map #[{ key := .string ⟨#[108, 97, 115, 116]⟩, val := .pointer (some ⟨w.heap.size + 1, 0, none⟩), born := 0 }, { key := .string ⟨#[104, 111, 117, 114, 115]⟩, val := .pointer (some ⟨w.heap.size + 1, 1, none⟩), born := 1 }, { key := .string ⟨#[100, 97, 121, 115]⟩, val := .pointer (some ⟨w.heap.size + 1, 2, none⟩), born := 2 }, { key := .string ⟨#[119, 101, 101, 107, 115]⟩, val := .pointer (some ⟨w.heap.size + 1, 3, none⟩), born := 3 }, { key := .string ⟨#[109, 111, 110, 116, 104, 115]⟩, val := .pointer (some ⟨w.heap.size + 1, 4, none⟩), born := 4 }, { key := .string ⟨#[121, 101, 97, 114, 115]⟩, val := .pointer (some ⟨w.heap.size + 1, 5, none⟩), born := 5 }] 6)) 9 (fsA l) (by simp)
  have hm4 : Mod no w ((((w.alloc (.cells #[.int .i16 0, .int .i16 0, .int .i16 0, .int .i16 0, .int .i16 0, .int .i16 0, .int .i64 0] 24)).alloc (.cells #[.int .i16 0, .int .i16 0, .int .i16 0, .int .i16 0, .int .i16 0, .int .i16 0, .int .i64 0] 24)).alloc (.map #[{ key := .string ⟨#[108, 97, 115, 116]⟩, val := .pointer (some ⟨w.heap.size + 1, 0, none⟩), born := 0 }, { key := .string ⟨#[104, 111, 117, 114, 115]⟩, val := .pointer (some ⟨w.heap.size + 1, 1, none⟩), born := 1 }, { key := .string ⟨#[100, 97, 121, 115]⟩, val := .pointer (some ⟨w.heap.size + 1, 2, none⟩), born := 2 }, { key := .string ⟨#[119, 101, 101, 107, 115]⟩, val := .pointer (some ⟨w.heap.size + 1, 3, none⟩), born := 3 }, { key := .string ⟨#[109, 111, 110, 116, 104, 115]⟩, val := .pointer (some ⟨w.heap.size + 1, 4, none⟩), born := 4 }, { key := .string ⟨#[121, 101, 97, 114, 115]⟩, val := .pointer (some ⟨w.heap.size + 1, 5, none⟩), born := 5 }] 6)).alloc (.cells (fsA l) 9)) := ((((Mod.refl no w).alloc _).alloc _).alloc _).alloc _
  have HB := Lib.hid (show FI w l (.int .i64 0) ((((w.alloc (.cells #[.int .i16 0, .int .i16 0, .int .i16 0, .int .i16 0, .int .i16 0, .int .i16 0, .int .i64 0] 24)).alloc (.cells #[.int .i16 0, .int .i16 0, .int .i16 0, .int .i16 0, .int .i16 0, .int .i16 0, .int .i64 0] 24)).alloc (.map #[{ key := .string ⟨#[108, 97, 115, 116]⟩, val := .pointer (some ⟨w.heap.size + 1, 0, none⟩), born := 0 }, { key := .string ⟨#[104, 111, 117, 114, 115]⟩, val := .pointer (some ⟨w.heap.size + 1, 1, none⟩), born := 1 }, { key := .string ⟨#[100, 97, 121, 115]⟩, val := .pointer (some ⟨w.heap.size + 1, 2, none⟩), born := 2 }, { key := .string ⟨#[119, 101, 101, 107, 115]⟩, val := .pointer (some ⟨w.heap.size + 1, 3, none⟩), born := 3 }, { key := .string ⟨#[109, 111, 110, 116, 104, 115]⟩, val := .pointer (some ⟨w.heap.size + 1, 4, none⟩), born := 4 }, { key := .string ⟨#[121, 101, 97, 114, 115]⟩, val := .pointer (some ⟨w.heap.size + 1, 5, none⟩), born := 5 }] 6)).alloc (.cells (fsA l) 9)) from
    ⟨0, Rule.zero, Nat.zero_le _, rfl, zero_in, rfl, ((B0.alloc _).alloc _).alloc _, (B1.alloc _).alloc _, B2.mod ((Mod.refl no _).alloc _) (fun c => c), B3, hm4⟩)
  clear B0 B1 B2 B3 hm4
  go_loopw [7] (fun (v7 : Value) (wr : World) => FI w l v7 wr) (fun v7 _ => (cuts l).length + 1 - (intOf v7).toNat)
  case atStart => exact HB.out
  case round =>
    obtain ⟨i, q, hil, rfl, hq, hfold, hb0, hb1, hb2, hb3, hM⟩ := hrel
    have hcl := cuts_length l
    have hll := HL.out
    have HI := Lib.hid hil
    have HQ := Lib.hid hq
    have HF := Lib.hid hfold
    have H0 := Lib.hid hb0
    have H1 := Lib.hid hb1
    have H2 := Lib.hid hb2
    have H3 := Lib.hid hb3
    have HMr := Lib.hid hM
    have hs3 := hb3.lt
    have hw1 : wrap64 ((i : Int) + 1) = (i : Int) + 1 := IntWalk.wrap64_in _ (by omega)
    have hw2 : wrap64 ((i : Int) + 2) = (i : Int) + 2 := IntWalk.wrap64_in _ (by omega)
    have HLL := Lib.hid (And.intro hcl hll)
    clear hil hq hfold hb0 hb1 hb2 hb3 hM hcl hll HB
    by_cases hlt : i + 1 < (cuts l).length
    · obtain ⟨f, hf⟩ : ∃ f, (cuts l)[i]? = some f := ⟨_, List.getElem?_eq_getElem (by omega)⟩
      obtain ⟨g, hg⟩ : ∃ g, (cuts l)[i + 1]? = some g := ⟨_, List.getElem?_eq_getElem hlt⟩
      have hd : (cuts l).drop i = f :: g :: (cuts l).drop (i + 2) := by
        rw [List.drop_eq_getElem_cons (by omega), List.drop_eq_getElem_cons hlt]
        rw [(List.getElem?_eq_some_iff.1 hf).2, (List.getElem?_eq_some_iff.1 hg).2]
      have hlt1 : (i : Int) + 1 < ((cuts l).length : Int) := by omega
      have hlt0 : (i : Int) < ((cuts l).length : Int) := by omega
      have hsz : (fsA l).size = (cuts l).length := by simp [fsA, strs]
      have cf : wr.cell? ⟨w.heap.size + 1 + 1 + 1, i, none⟩ = some (.string (sv f)) := by rw [H3.out.cell]; simp [fsA, strs, hf]
      have cg : wr.cell? ⟨w.heap.size + 1 + 1 + 1, i + 1, none⟩ = some (.string (sv g)) := by rw [H3.out.cell]; simp [fsA, strs, hg]
      have HGL := Lib.hid (show g.length ≤ 1048600 by have := cuts_size l g (List.mem_of_getElem? hg); have := HL.out; omega)
      have HK := Lib.hid hlt
      have HD := Lib.hid hd
      have HPM := Lib.hid (parse_m (w := wr) HGL.out (HV.out wr HMr.out))
      clear hf hg hd hlt hsz
      by_cases hok : ∃ n, Lib.parseIntB 64 g = .ok n
      case neg =>
        have HE := Lib.hid (show parseP l = none by
          rw [← HF.out, HD.out, foldP]
          split
          · rename_i n hn; exact absurd ⟨n, hn⟩ hok
          · rfl)
        have HNO := Lib.hid hok
        clear hok
        have k0 := H0.out.cell 0
        have k1 := H0.out.cell 1
        have k2 := H0.out.cell 2
        have k3 := H0.out.cell 3
        have k4 := H0.out.cell 4
        have k5 := H0.out.cell 5
        have k6 := H0.out.cell 6
        go_wp2_with (go_at_call 16; refine HPM.out.mono ?_; rintro e w4 ⟨m4, ⟨n, hn, _, _⟩ | ⟨n, N, _, rfl⟩⟩; exact absurd ⟨n, hn⟩ HNO.out; have M4 := Lib.hid m4; have B4 := Lib.hid (H0.out.mod m4 (fun c => c)); clear m4; have j0 := B4.out.cell 0; have j1 := B4.out.cell 1; have j2 := B4.out.cell 2; have j3 := B4.out.cell 3; have j4 := B4.out.cell 4; have j5 := B4.out.cell 5; have j6 := B4.out.cell 6; have f0 := B4.out.free 0; have f1 := B4.out.free 1; have f2 := B4.out.free 2; have f3 := B4.out.free 3; have f4 := B4.out.free 4; have f5 := B4.out.free 5; have f6 := B4.out.free 6)
        have M4' := Lib.hid (HMr.out.and_then M4.out)
        exact bodyPost_ret (v := .tuple #[.agg #[.int .i16 0, .int .i16 0, .int .i16 0, .int .i16 0, .int .i16 0, .int .i16 0, .int .i64 0], .int .i64 280]) (ret_cell (p := 2) (u := 3) (ty := 24) rfl _ _ w.heap.size #[.int .i16 0, .int .i16 0, .int .i16 0, .int .i16 0, .int .i16 0, .int .i16 0, .int .i64 0] _ 24 rfl (put7 B4.out (.int .i16 0) (.int .i16 0) (.int .i16 0) (.int .i16 0) (.int .i16 0) (.int .i16 0) (.int .i64 0)) Tryd.underlying24 rfl rule_info) rfl ⟨mod7 M4'.out (Nat.le_refl _) (.int .i16 0) (.int .i16 0) (.int .i16 0) (.int .i16 0) (.int .i16 0) (.int .i16 0) (.int .i64 0), Rule.zero, 280, rfl, answer_none HE.out⟩
      obtain ⟨n, hn⟩ := hok
      have hfoldn : foldP ((cuts l).drop (i + 2)) (setW f n q) = parseP l := by rw [← HF.out, HD.out, foldP, hn]
      have HN := Lib.hid hn
      have HFN := Lib.hid hfoldn
      have hlk := fun (W : World) (h : MapAt W (w.heap.size + 1 + 1) (w.heap.size + 1)) => look h f
      clear hn hfoldn
      have hs1 := H1.out.lt
      rcases atW_cases (w.heap.size + 1) f with ⟨k, hk6, hat, hset⟩ | ⟨hat, hset⟩
      · rw [hat] at hlk
        obtain ⟨old, hold⟩ := rc_get q hk6
        have HS := Lib.hid (And.intro hset hold)
        clear hset hold hat
        go_wp2_with (go_at_call 16; refine HPM.out.mono ?_; rintro e w4 ⟨m4, ⟨n', hn', hi64, rfl⟩ | ⟨n', N, hno, _⟩⟩; rotate_left; exact absurd HN.out (hno n); obtain rfl : n' = n := by { have := hn'.symm.trans HN.out; injection this }; have M4 := Lib.hid (HMr.out.and_then m4); have hlk4 := hlk w4 (H2.out.mod m4 (fun c => c)); have G0 := Lib.hid (H0.out.mod m4 (fun c => c)); have G1 := Lib.hid (H1.out.mod m4 (fun c => c)); have G2 := Lib.hid (H2.out.mod m4 (fun c => c)); have G3 := Lib.hid (H3.out.mod m4 (fun c => c)); have cf4 := (m4.cell (p := ⟨w.heap.size + 1 + 1 + 1, i, none⟩) hs3 (fun c => c)).trans cf; have HI64 := Lib.hid hi64; have d0 : w4.cell? ⟨w.heap.size + 1, k, none⟩ = some (.int .i16 old) := by { rw [G1.out.cell]; exact HS.out.2 }; have r0 := G1.out.free k; clear m4 hlk hn' hi64)
        go_roundw
        case rel =>
          refine ⟨i + 2, setW f n' q, by have := HK.out; omega, by go_num, setW_in HQ.out HI64.out, HFN.out, G0.out.far (by simp) _, ?_, G2.out.mod ((Mod.refl (one (w.heap.size + 1)) w4).set (p := ⟨w.heap.size + 1, k, none⟩) (fun _ => rfl) _) (fun c => by have c : w.heap.size + 1 + 1 = w.heap.size + 1 := c; omega), G3.out.far (by simp; omega) _, M4.out.set (p := ⟨w.heap.size + 1, k, none⟩) (fun h => absurd h (by simp)) _⟩
          rw [HS.out.1]
          exact G1.out.put k _
        case measure => first | exact meas HK.out rfl | exact meas HK.out hw2
      · rw [hat] at hlk
        have HS := Lib.hid hset
        clear hset hat
        go_wp2_with (go_at_call 16; refine HPM.out.mono ?_; rintro e w4 ⟨m4, ⟨n', hn', hi64, rfl⟩ | ⟨n', N, hno, _⟩⟩; rotate_left; exact absurd HN.out (hno n); obtain rfl : n' = n := by { have := hn'.symm.trans HN.out; injection this }; have M4 := Lib.hid (HMr.out.and_then m4); have hlk4 := hlk w4 (H2.out.mod m4 (fun c => c)); have G0 := Lib.hid (H0.out.mod m4 (fun c => c)); have G1 := Lib.hid (H1.out.mod m4 (fun c => c)); have G2 := Lib.hid (H2.out.mod m4 (fun c => c)); have G3 := Lib.hid (H3.out.mod m4 (fun c => c)); have cf4 := (m4.cell (p := ⟨w.heap.size + 1 + 1 + 1, i, none⟩) hs3 (fun c => c)).trans cf; have HI64 := Lib.hid hi64; have d0 : w4.cell? ⟨w.heap.size + 1, 6, none⟩ = some (.int .i64 q.x) := G1.out.cell 6; have r0 := G1.out.free 6; clear m4 hlk hn' hi64)
        go_roundw
        case rel =>
          refine ⟨i + 2, setW f n' q, by have := HK.out; omega, by go_num, setW_in HQ.out HI64.out, HFN.out, G0.out.far (by simp) _, ?_, G2.out.mod ((Mod.refl (one (w.heap.size + 1)) w4).set (p := ⟨w.heap.size + 1, 6, none⟩) (fun _ => rfl) _) (fun c => by have c : w.heap.size + 1 + 1 = w.heap.size + 1 := c; omega), G3.out.far (by simp; omega) _, M4.out.set (p := ⟨w.heap.size + 1, 6, none⟩) (fun h => absurd h (by simp)) _⟩
          rw [HS.out]
          exact G1.out.put 6 _
        case measure => first | exact meas HK.out rfl | exact meas HK.out hw2
    · have hlt1 : ¬ (i : Int) + 1 < ((cuts l).length : Int) := by omega
      have HP := Lib.hid (show parseP l = some q by rw [← HF.out]; exact fold_short (by omega) q)
      have k0 : wr.cell? ⟨w.heap.size + 1, 0, none⟩ = some (.int .i16 q.l) := H1.out.cell 0
      have k1 : wr.cell? ⟨w.heap.size + 1, 1, none⟩ = some (.int .i16 q.h) := H1.out.cell 1
      have k2 : wr.cell? ⟨w.heap.size + 1, 2, none⟩ = some (.int .i16 q.d) := H1.out.cell 2
      have k3 : wr.cell? ⟨w.heap.size + 1, 3, none⟩ = some (.int .i16 q.w) := H1.out.cell 3
      have k4 : wr.cell? ⟨w.heap.size + 1, 4, none⟩ = some (.int .i16 q.m) := H1.out.cell 4
      have k5 : wr.cell? ⟨w.heap.size + 1, 5, none⟩ = some (.int .i16 q.y) := H1.out.cell 5
      have k6 : wr.cell? ⟨w.heap.size + 1, 6, none⟩ = some (.int .i64 q.x) := H1.out.cell 6
      have hpr := print_p (w := wr) HQ.out (HT.out _ HMr.out)
      clear hlt
      by_cases hr : q.right ∧ q.text = l
      · have HPR := Lib.hid (hpr.mono (fun e w' (h : _ ∧ _) => show e = .returned (.tuple #[.string (sv l), .int .i64 0]) ∧ Mod no wr w' from ⟨by
          rcases h.2 with ⟨_, h⟩ | ⟨h, _⟩
          · rw [h, hr.2]
          · exact absurd hr.1 h, h.1⟩))
        have HR := Lib.hid hr
        clear hr hpr
        go_wp2_with (go_at_call 5; refine HPR.out.mono ?_; rintro e w4 ⟨rfl, m4⟩; have M4 := Lib.hid (HMr.out.and_then m4); have B4 := Lib.hid (H0.out.mod m4 (fun c => c)); have R4 := Lib.hid (H1.out.mod m4 (fun c => c)); clear m4; have p0 := B4.out.cell 0; have p1 := B4.out.cell 1; have p2 := B4.out.cell 2; have p3 := B4.out.cell 3; have p4 := B4.out.cell 4; have p5 := B4.out.cell 5; have p6 := B4.out.cell 6; have f0 := B4.out.free 0; have f1 := B4.out.free 1; have f2 := B4.out.free 2; have f3 := B4.out.free 3; have f4 := B4.out.free 4; have f5 := B4.out.free 5; have f6 := B4.out.free 6; have q0 : w4.cell? ⟨w.heap.size + 1, 0, none⟩ = some (.int .i16 q.l) := R4.out.cell 0; have q1 : w4.cell? ⟨w.heap.size + 1, 1, none⟩ = some (.int .i16 q.h) := R4.out.cell 1; have q2 : w4.cell? ⟨w.heap.size + 1, 2, none⟩ = some (.int .i16 q.d) := R4.out.cell 2; have q3 : w4.cell? ⟨w.heap.size + 1, 3, none⟩ = some (.int .i16 q.w) := R4.out.cell 3; have q4 : w4.cell? ⟨w.heap.size + 1, 4, none⟩ = some (.int .i16 q.m) := R4.out.cell 4; have q5 : w4.cell? ⟨w.heap.size + 1, 5, none⟩ = some (.int .i16 q.y) := R4.out.cell 5; have q6 : w4.cell? ⟨w.heap.size + 1, 6, none⟩ = some (.int .i64 q.x) := R4.out.cell 6)
        exact bodyPost_ret (v := .tuple #[.agg #[.int .i16 q.l, .int .i16 q.h, .int .i16 q.d, .int .i16 q.w, .int .i16 q.m, .int .i16 q.y, .int .i64 q.x], .int .i64 0]) (ret_cell (p := 2) (u := 3) (ty := 24) rfl _ _ w.heap.size #[.int .i16 q.l, .int .i16 q.h, .int .i16 q.d, .int .i16 q.w, .int .i16 q.m, .int .i16 q.y, .int .i64 q.x] _ 24 rfl (put7 B4.out (.int .i16 q.l) (.int .i16 q.h) (.int .i16 q.d) (.int .i16 q.w) (.int .i16 q.m) (.int .i16 q.y) (.int .i64 q.x)) Tryd.underlying24 rfl rule_info) rfl ⟨mod7 M4.out (Nat.le_refl _) (.int .i16 q.l) (.int .i16 q.h) (.int .i16 q.d) (.int .i16 q.w) (.int .i16 q.m) (.int .i16 q.y) (.int .i64 q.x), q, 0, rfl, answer_yes HQ.out HR.out.1 HR.out.2⟩
      · have HA := Lib.hid (answer_other HP.out hr)
        by_cases hr1 : q.right
        · have hne : q.text ≠ l := fun h => hr ⟨hr1, h⟩
          generalize q.text = t at *
          have HPR := Lib.hid (hpr.mono (fun e w' (h : _ ∧ _) => show e = .returned (.tuple #[.string (sv t), .int .i64 0]) ∧ Mod no wr w' from ⟨by
            rcases h.2 with ⟨_, h⟩ | ⟨h, _⟩
            · exact h
            · exact absurd hr1 h, h.1⟩))
          have g1 : ¬ (sv t).toList = (sv l).toList := by rw [sv_list, sv_list]; exact hne
          have g2 : ((sv t).toList == (sv l).toList) = false := by rw [sv_list, sv_list]; simpa using hne
          have g3 : ((sv t).toList != (sv l).toList) = true := by rw [sv_list, sv_list]; simpa using hne
          clear hr hr1 hpr hne
          go_wp2_with (go_at_call 5; refine HPR.out.mono ?_; rintro e w4 ⟨rfl, m4⟩; have M4 := Lib.hid (HMr.out.and_then m4); have B4 := Lib.hid (H0.out.mod m4 (fun c => c)); have R4 := Lib.hid (H1.out.mod m4 (fun c => c)); clear m4; have p0 := B4.out.cell 0; have p1 := B4.out.cell 1; have p2 := B4.out.cell 2; have p3 := B4.out.cell 3; have p4 := B4.out.cell 4; have p5 := B4.out.cell 5; have p6 := B4.out.cell 6; have f0 := B4.out.free 0; have f1 := B4.out.free 1; have f2 := B4.out.free 2; have f3 := B4.out.free 3; have f4 := B4.out.free 4; have f5 := B4.out.free 5; have f6 := B4.out.free 6; have q0 : w4.cell? ⟨w.heap.size + 1, 0, none⟩ = some (.int .i16 q.l) := R4.out.cell 0; have q1 : w4.cell? ⟨w.heap.size + 1, 1, none⟩ = some (.int .i16 q.h) := R4.out.cell 1; have q2 : w4.cell? ⟨w.heap.size + 1, 2, none⟩ = some (.int .i16 q.d) := R4.out.cell 2; have q3 : w4.cell? ⟨w.heap.size + 1, 3, none⟩ = some (.int .i16 q.w) := R4.out.cell 3; have q4 : w4.cell? ⟨w.heap.size + 1, 4, none⟩ = some (.int .i16 q.m) := R4.out.cell 4; have q5 : w4.cell? ⟨w.heap.size + 1, 5, none⟩ = some (.int .i16 q.y) := R4.out.cell 5; have q6 : w4.cell? ⟨w.heap.size + 1, 6, none⟩ = some (.int .i64 q.x) := R4.out.cell 6)
          exact bodyPost_ret (v := .tuple #[.agg #[.int .i16 0, .int .i16 0, .int .i16 0, .int .i16 0, .int .i16 0, .int .i16 0, .int .i64 0], .int .i64 280]) (ret_cell (p := 2) (u := 3) (ty := 24) rfl _ _ w.heap.size #[.int .i16 0, .int .i16 0, .int .i16 0, .int .i16 0, .int .i16 0, .int .i16 0, .int .i64 0] _ 24 rfl (put7 B4.out (.int .i16 0) (.int .i16 0) (.int .i16 0) (.int .i16 0) (.int .i16 0) (.int .i16 0) (.int .i64 0)) Tryd.underlying24 rfl rule_info) rfl ⟨mod7 M4.out (Nat.le_refl _) (.int .i16 0) (.int .i16 0) (.int .i16 0) (.int .i16 0) (.int .i16 0) (.int .i16 0) (.int .i64 0), Rule.zero, 280, rfl, HA.out⟩
        · have HPR := Lib.hid (hpr.mono (fun e w' (h : _ ∧ _) => show e = .returned (.tuple #[.string (sv []), .int .i64 280]) ∧ Mod no wr w' from ⟨by
            rcases h.2 with ⟨h, _⟩ | ⟨_, h⟩
            · exact absurd h hr1
            · exact h, h.1⟩))
          clear hr hr1 hpr
          go_wp2_with (go_at_call 5; refine HPR.out.mono ?_; rintro e w4 ⟨rfl, m4⟩; have M4 := Lib.hid (HMr.out.and_then m4); have B4 := Lib.hid (H0.out.mod m4 (fun c => c)); have R4 := Lib.hid (H1.out.mod m4 (fun c => c)); clear m4; have p0 := B4.out.cell 0; have p1 := B4.out.cell 1; have p2 := B4.out.cell 2; have p3 := B4.out.cell 3; have p4 := B4.out.cell 4; have p5 := B4.out.cell 5; have p6 := B4.out.cell 6; have f0 := B4.out.free 0; have f1 := B4.out.free 1; have f2 := B4.out.free 2; have f3 := B4.out.free 3; have f4 := B4.out.free 4; have f5 := B4.out.free 5; have f6 := B4.out.free 6; have q0 : w4.cell? ⟨w.heap.size + 1, 0, none⟩ = some (.int .i16 q.l) := R4.out.cell 0; have q1 : w4.cell? ⟨w.heap.size + 1, 1, none⟩ = some (.int .i16 q.h) := R4.out.cell 1; have q2 : w4.cell? ⟨w.heap.size + 1, 2, none⟩ = some (.int .i16 q.d) := R4.out.cell 2; have q3 : w4.cell? ⟨w.heap.size + 1, 3, none⟩ = some (.int .i16 q.w) := R4.out.cell 3; have q4 : w4.cell? ⟨w.heap.size + 1, 4, none⟩ = some (.int .i16 q.m) := R4.out.cell 4; have q5 : w4.cell? ⟨w.heap.size + 1, 5, none⟩ = some (.int .i16 q.y) := R4.out.cell 5; have q6 : w4.cell? ⟨w.heap.size + 1, 6, none⟩ = some (.int .i64 q.x) := R4.out.cell 6)
          exact bodyPost_ret (v := .tuple #[.agg #[.int .i16 0, .int .i16 0, .int .i16 0, .int .i16 0, .int .i16 0, .int .i16 0, .int .i64 0], .int .i64 280]) (ret_cell (p := 2) (u := 3) (ty := 24) rfl _ _ w.heap.size #[.int .i16 0, .int .i16 0, .int .i16 0, .int .i16 0, .int .i16 0, .int .i16 0, .int .i64 0] _ 24 rfl (put7 B4.out (.int .i16 0) (.int .i16 0) (.int .i16 0) (.int .i16 0) (.int .i16 0) (.int .i16 0) (.int .i64 0)) Tryd.underlying24 rfl rule_info) rfl ⟨mod7 M4.out (Nat.le_refl _) (.int .i16 0) (.int .i16 0) (.int .i16 0) (.int .i16 0) (.int .i16 0) (.int .i16 0) (.int .i64 0), Rule.zero, 280, rfl, HA.out⟩
end Go.Proofs.YtoncjoelkenjnaaDoor.KR
