/- The program's Parse (printed by keepparse.py). -/
import Derived.Test.YtoncjoelkenjnaaDoorKrD
import Derived.WideMake
import Derived.Laws.StructEq
namespace Go.Proofs.YtoncjoelkenjnaaDoor.KR
open Go.RowKit Mem HD
set_option linter.unusedVariables false
set_option linter.unusedSimpArgs false

theorem answer_yes {l : Bytes} {q : Rule} (hq : q.In) (hr : q.right) (h : q.text = l) : Answer l q 0 := .inl ⟨rfl, hq, hr, h⟩
theorem answer_none {l : Bytes} (hp : parseP l = none) : Answer l Rule.zero 280 := .inr ⟨rfl, rfl, fun q hi hr ht => by
  rw [← ht, parseP_text hi hr] at hp; cases hp⟩
theorem answer_other {l : Bytes} {q : Rule} (hp : parseP l = some q) (h : ¬ (q.right ∧ q.text = l)) : Answer l Rule.zero 280 := .inr ⟨rfl, rfl, fun q' hi hr ht => by
  rw [← ht, parseP_text hi hr] at hp
  injection hp with hp
  exact h (by subst hp; exact ⟨hr, ht⟩)⟩
/-- A new key put into a map that is the newest block. -/
theorem ins {W : World} {r : Nat} (hr : r = W.heap.size) (es : Array MapEntry) (c : Nat) (s : ByteArray) (v : Value) (hf : Instr.findNow .string (.string s) es.toList 0 = some none) :
    (Instr.mapUpdate 41 (.map (some r)) (.string s) v).run Tryd.prog (W.alloc (.map es c)) = .ok () (W.alloc (.map (es.push { key := .string s, val := v, born := c }) (c + 1))) := by
  subst hr
  have hb : (W.alloc (.map es c)).heap[W.heap.size]? = some (.map es c) := heap_alloc_new W _
  have hc : (Instr.checkKey false 10000 9 (.string s)).run Tryd.prog (W.alloc (.map es c)) = .ok () (W.alloc (.map es c)) := MapKept.run_checkKey (k := .string s) Tryd.underlying9 (by simp [MapKept.IsKey]) false 9999
  have hw : ({ (W.alloc (.map es c)) with heap := (W.alloc (.map es c)).heap.setIfInBounds W.heap.size (.map (es.push { key := .string s, val := v, born := c }) (c + 1)) } : World) = W.alloc (.map (es.push { key := .string s, val := v, born := c }) (c + 1)) := by
    have hh : (W.alloc (.map es c)).heap.setIfInBounds W.heap.size (.map (es.push { key := .string s, val := v, born := c }) (c + 1)) = (W.alloc (.map (es.push { key := .string s, val := v, born := c }) (c + 1))).heap := by
      show (W.heap.push _).setIfInBounds W.heap.size _ = W.heap.push _
      apply Array.ext'
      simp [List.set_append]
    rw [hh]
    rfl
  simp [Instr.mapUpdate, run_underlying Tryd.underlying41, MapKept.run_getObj_map hb, hc, MapKept.run_findKey Tryd.underlying9 hf, MapKept.run_setObj_map _ hb, Result.andThen]
  exact hw
/-- The program's map: each word, where its number lies. -/
def ME (R : Nat) : Array MapEntry := #[{ key := .string ⟨#[108, 97, 115, 116]⟩, val := .pointer (some ⟨R, 0, none⟩), born := 0 }, { key := .string ⟨#[104, 111, 117, 114, 115]⟩, val := .pointer (some ⟨R, 1, none⟩), born := 1 }, { key := .string ⟨#[100, 97, 121, 115]⟩, val := .pointer (some ⟨R, 2, none⟩), born := 2 }, { key := .string ⟨#[119, 101, 101, 107, 115]⟩, val := .pointer (some ⟨R, 3, none⟩), born := 3 }, { key := .string ⟨#[109, 111, 110, 116, 104, 115]⟩, val := .pointer (some ⟨R, 4, none⟩), born := 4 }, { key := .string ⟨#[121, 101, 97, 114, 115]⟩, val := .pointer (some ⟨R, 5, none⟩), born := 5 }]
def MapAt (w : World) (M R : Nat) : Prop := w.heap[M]? = some (.map (ME R) 6)
theorem MapAt.mod {S : Nat → Prop} {w w' : World} {M R : Nat} (h : MapAt w M R) (m : Mod S w w') (hn : ¬ S M) : MapAt w' M R := by
  have hlt : M < w.heap.size := by
    rcases Nat.lt_or_ge M w.heap.size with c | c
    · exact c
    · unfold MapAt at h; rw [Array.getElem?_eq_none c] at h; cases h
  exact (m.block M hlt hn).trans h
theorem sv_beq (a b : Bytes) : (sv a == sv b) = decide (a = b) := by
  rw [beq_toListBytes, sv_list, sv_list]
  by_cases h : a = b
  · subst h; simp
  · simp [h]
theorem find_cons {s : Bytes} {t : Bytes} {v : Value} {n : Nat} {es : List MapEntry} {i : Nat} : Instr.findNow .string (.string (sv s)) ({ key := .string (sv t), val := v, born := n } :: es) i = if s = t then some (some (i, v)) else Instr.findNow .string (.string (sv s)) es (i + 1) := by
  have hsm : Instr.sameNow .string (.string (sv s)) (.string (sv t)) = some (decide (s = t)) := congrArg some (sv_beq s t)
  rw [Instr.findNow]
  simp only [hsm]
  by_cases h : s = t
  · rw [decide_eq_true h, if_pos h]
  · rw [decide_eq_false h, if_neg h]
def atW (R : Nat) (f : Bytes) : Value :=
  if f = wLast then .pointer (some ⟨R, 0, none⟩) else
  if f = wHours then .pointer (some ⟨R, 1, none⟩) else
  if f = wDays then .pointer (some ⟨R, 2, none⟩) else
  if f = wWeeks then .pointer (some ⟨R, 3, none⟩) else
  if f = wMonths then .pointer (some ⟨R, 4, none⟩) else
  if f = wYears then .pointer (some ⟨R, 5, none⟩) else
  .pointer none
set_option maxRecDepth 100000 in
theorem look {w : World} {M R : Nat} (h : MapAt w M R) (f : Bytes) : (Instr.lookup 41 (.map (some M)) (.string (sv f)) false).run Tryd.prog w = .ok (atW R f) w := by
  have hc : (Instr.checkKey false 10000 9 (.string (sv f))).run Tryd.prog w = .ok () w := MapKept.run_checkKey (k := .string (sv f)) Tryd.underlying9 (by simp [MapKept.IsKey]) false 9999
  have hz : (zeroValue 40).run Tryd.prog w = .ok (.pointer none) w := by
    obtain ⟨i, hi, hz⟩ : ∃ i, Tryd.prog.info? 40 = some i ∧ i.zero = some (.pointer none) := by
      have h : (Tryd.prog.info? 40).map (fun i => i.zero) = some (some (.pointer none)) := by kernel_rfl
      obtain ⟨i, hi, h⟩ := Option.map_eq_some_iff.1 h
      exact ⟨i, hi, h⟩
    simp [zeroValue, typeInfo, hi, hz]
  have hf : Instr.findNow .string (.string (sv f)) (ME R).toList 0 = some (if f = wLast then some (0, .pointer (some ⟨R, 0, none⟩)) else if f = wHours then some (1, .pointer (some ⟨R, 1, none⟩)) else if f = wDays then some (2, .pointer (some ⟨R, 2, none⟩)) else if f = wWeeks then some (3, .pointer (some ⟨R, 3, none⟩)) else if f = wMonths then some (4, .pointer (some ⟨R, 4, none⟩)) else if f = wYears then some (5, .pointer (some ⟨R, 5, none⟩)) else none) := by
    show Instr.findNow .string (.string (sv f)) [{ key := .string (sv wLast), val := .pointer (some ⟨R, 0, none⟩), born := 0 }, { key := .string (sv wHours), val := .pointer (some ⟨R, 1, none⟩), born := 1 }, { key := .string (sv wDays), val := .pointer (some ⟨R, 2, none⟩), born := 2 }, { key := .string (sv wWeeks), val := .pointer (some ⟨R, 3, none⟩), born := 3 }, { key := .string (sv wMonths), val := .pointer (some ⟨R, 4, none⟩), born := 4 }, { key := .string (sv wYears), val := .pointer (some ⟨R, 5, none⟩), born := 5 }] 0 = _
    rw [find_cons, find_cons, find_cons, find_cons, find_cons, find_cons]
    have hn : ∀ i, Instr.findNow .string (.string (sv f)) [] i = some none := fun _ => rfl
    rw [hn]
    repeat' split
    all_goals rfl
  unfold atW
  have h' : w.heap[M]? = some (.map (ME R) 6) := h
  have hemp : (ME R).isEmpty = false := rfl
  simp only [Instr.lookup, Sem.run_bind, run_underlying Tryd.underlying41, Result.andThen_ok, MapKept.run_getObj_map h', Sem.run_pure]
  rw [hemp, hc]
  simp only [Result.andThen_ok, MapKept.run_findKey Tryd.underlying9 hf]
  by_cases h0 : f = wLast
  · simp only [if_pos h0]
    rfl
  by_cases h1 : f = wHours
  · simp only [if_pos h1, if_neg h0]
    rfl
  by_cases h2 : f = wDays
  · simp only [if_pos h2, if_neg h0, if_neg h1]
    rfl
  by_cases h3 : f = wWeeks
  · simp only [if_pos h3, if_neg h0, if_neg h1, if_neg h2]
    rfl
  by_cases h4 : f = wMonths
  · simp only [if_pos h4, if_neg h0, if_neg h1, if_neg h2, if_neg h3]
    rfl
  by_cases h5 : f = wYears
  · simp only [if_pos h5, if_neg h0, if_neg h1, if_neg h2, if_neg h3, if_neg h4]
    rfl
  simp only [if_neg h0, if_neg h1, if_neg h2, if_neg h3, if_neg h4, if_neg h5, Sem.run_pure, Sem.run_bind, hz, Result.andThen_ok, Bool.false_eq_true, if_false]
/-- The parts of the text as they lie. -/
def fsA (l : Bytes) : Array Value := (strs (cuts l)).toArray
theorem split_p {w : World} {l : Bytes} {m : Int} (hl : l.length ≤ 1048600) (hm : w.cell? ⟨3, 0, none⟩ = some (.int .i64 m)) :
    Calls Tryd.prog 15 #[.string (sv l), .string ⟨#[32]⟩] w fun e w' => e = .returned (.slice (some ⟨w.heap.size, 0, none⟩) (cuts l).length (cuts l).length) ∧ w' = w.alloc (.cells (fsA l) 9) := by
  have h1 : Lib.countB (sv l) (sv [32]) = l.count 32 := by
    show Lib.count (sv l).data.toList (sv [32]).data.toList = _
    simp only [sv]
    exact Lib.count_one 32 l
  have hd := Lib.splitB_data (sv [32]) 0 (Lib.countB (sv l) (sv [32])) (sv l)
  have h2 : (Lib.splitB (sv [32]) 0 (Lib.countB (sv l) (sv [32])) (sv l)).map (·.data.toList) = cuts l := by
    rw [hd, h1]; simp only [sv]; exact splitK_cuts l
  have h3 : Lib.splitB (sv [32]) 0 (Lib.countB (sv l) (sv [32])) (sv l) = (cuts l).map sv := by
    rw [← h2, List.map_map]
    conv => lhs; rw [← List.map_id (Lib.splitB (sv [32]) 0 (Lib.countB (sv l) (sv [32])) (sv l))]
    apply List.map_congr_left
    intro x _
    cases x with
    | mk d => simp [sv]
  have h4 : Lib.countB (sv l) (sv [32]) + 1 = (cuts l).length := by
    have h := Lib.splitB_all (sv [32]) (by rw [sv_size]; simp) 0 _ (sv l) rfl
    rw [h3, List.length_map] at h
    exact h.symm
  refine (strings_Split (sv l) (sv [32]) m w (by rw [sv_size]; omega) hm (by rw [sv_size]; simp)).mono fun e w' ⟨he, hw⟩ => ?_
  rw [h4] at he
  refine ⟨he, ?_⟩
  rw [hw, h3]
  simp [fsA, strs, List.map_map]
  rfl
/-- How strconv.ParseInt ends. -/
def Ends (f : Bytes) (w : World) (e : Ending) (w' : World) : Prop := Mod no w w' ∧ ((∃ n, Lib.parseIntB 64 f = .ok n ∧ I64 n ∧ e = .returned (.tuple #[.int .i64 n, .nilIface])) ∨
  (∃ (n : Int) (N : Nat), (∀ k, Lib.parseIntB 64 f ≠ .ok k) ∧ e = .returned (.tuple #[.int .i64 n, .iface 73 (.pointer (some ⟨N, 0, none⟩))])))
/-- The two errors' variables hold errors. -/
def VW (w : World) : Prop := (∃ t p, w.var? Tryd.prog "strconv.ErrSyntax" = some #[.iface t p]) ∧ (∃ t p, w.var? Tryd.prog "strconv.ErrRange" = some #[.iface t p])
theorem parse_i64 {f : Bytes} {n : Int} (h : Lib.parseIntB 64 f = .ok n) : I64 n := by
  cases f with
  | nil => cases h
  | cons c r =>
    simp only [Lib.parseIntB] at h
    split at h
    · cases h
    · cases h
    · split at h
      · cases h
      · split at h
        · cases h
        · injection h with h
          split at h <;> (constructor <;> omega)
theorem parse_m {w : World} {f : Bytes} (hl : f.length ≤ 1048600) (hV : VW w) : Calls Tryd.prog 16 #[.string (sv f), .int .i64 10, .int .i64 64] w fun e w' => Ends f w e w' := by
  have hs : (sv f).size = f.length := sv_size f
  obtain ⟨⟨t1, p1, v1⟩, ⟨t2, p2, v2⟩⟩ := hV
  rcases hp : Lib.parseIntB 64 f with n | _ | _
  · refine (strconv_ParseInt_10_at64_ok (sv f) (by omega) n (by simpa [sv] using hp) w).mono fun e w' ⟨he, hw⟩ => ⟨?_, .inl ⟨n, hp, parse_i64 hp, he⟩⟩
    rcases hw with rfl | ⟨t, rfl⟩
    · exact Mod.refl _ _
    · exact Mod.of_new (Lib.bytesWorld_below _ _ _)
  · refine (strconv_ParseInt_10_at64_syntax_var (sv f) (by omega) (show Lib.parseIntB 64 (sv f).data.toList = Lib.parseIntB 64 [] from hp) t1 p1 w v1).mono fun e w' ⟨N, he, _, _, hb⟩ => ⟨Mod.of_new hb, .inr ⟨_, N, by rw [hp]; simp, he⟩⟩
  · refine (strconv_ParseInt_10_at64_range_var (sv f) (by omega) (by simpa [sv] using hp) t2 p2 w v2).mono fun e w' ⟨N, he, _, _, hb⟩ => ⟨Mod.of_new hb, .inr ⟨_, N, by rw [hp]; simp, he⟩⟩
end Go.Proofs.YtoncjoelkenjnaaDoor.KR
