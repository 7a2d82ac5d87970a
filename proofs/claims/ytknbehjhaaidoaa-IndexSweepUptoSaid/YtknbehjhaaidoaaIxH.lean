/- What Next tells: the least key above one; marks among the deferred calls. -/
import Derived.Test.YtknbehjhaaidoaaIxG
namespace Go.Proofs.Ytknbehjhaaidoaa.IX
open Go.RowKit Go.Shelf Mem HD TB
set_option linter.unusedVariables false
set_option linter.unusedSimpArgs false
/-- Is a key asked for? -/
def asked (any : Bool) (after k : Key) : Bool := any || decide (Lib.compareBytes k.1 after.1 > 0)
def tst (any : Bool) (after : Key) (b : Option (Key × Ent)) (k : Key) : Bool := asked any after k && (match b with
  | none => true
  | some y => decide (Lib.compareBytes k.1 y.1.1 < 0))
def pick1 (any : Bool) (after : Key) (b : Option (Key × Ent)) (x : Key × Ent) : Option (Key × Ent) := if tst any after b x.1 = true then some x else b
def best (any : Bool) (after : Key) (l : List (Key × Ent)) : Option (Key × Ent) := l.foldl (pick1 any after) none
theorem best_snoc (any : Bool) (after : Key) (l : List (Key × Ent)) (x : Key × Ent) : best any after (l ++ [x]) = pick1 any after (best any after l) x := by
  unfold best; rw [List.foldl_append]; rfl
theorem asked_iff {any : Bool} {after k : Key} : asked any after k = true ↔ any = true ∨ klt after k := by
  unfold asked
  rw [Bool.or_eq_true, decide_eq_true_iff, klt_gt]
/-- The best one is asked for, and none that is asked for is less. -/
def Best (any : Bool) (after : Key) (l : List (Key × Ent)) : Option (Key × Ent) → Prop
  | none => ∀ x ∈ l, ¬ asked any after x.1 = true
  | some y => y ∈ l ∧ asked any after y.1 = true ∧ ∀ x ∈ l, asked any after x.1 = true → ¬ klt x.1 y.1
theorem best_spec (any : Bool) (after : Key) : ∀ (l l' : List (Key × Ent)) (b : Option (Key × Ent)), Best any after l' b → Best any after (l' ++ l) (l.foldl (pick1 any after) b)
  | [], l', b, h => by simpa using h
  | x :: l, l', b, h => by
    have h1 : Best any after (l' ++ [x]) (pick1 any after b x) := by
      unfold pick1
      by_cases c : tst any after b x.1 = true
      · rw [if_pos c]
        unfold tst at c
        rw [Bool.and_eq_true] at c
        refine ⟨by simp, c.1, fun z hz ha => ?_⟩
        rcases List.mem_append.1 hz with hz | hz
        · cases b with
          | none => exact absurd ha (h z hz)
          | some y =>
            have c2 : klt x.1 y.1 := decide_eq_true_iff.1 c.2
            exact fun hl => h.2.2 z hz ha (klt_trans hl c2)
        · rw [List.mem_singleton.1 hz]; exact klt_irrefl _
      · rw [if_neg c]
        unfold tst at c
        rw [Bool.and_eq_true] at c
        cases b with
        | none =>
          intro z hz ha
          rcases List.mem_append.1 hz with hz | hz
          · exact h z hz ha
          · rw [List.mem_singleton.1 hz] at ha; exact c ⟨ha, rfl⟩
        | some y =>
          refine ⟨List.mem_append.2 (.inl h.1), h.2.1, fun z hz ha => ?_⟩
          rcases List.mem_append.1 hz with hz | hz
          · exact h.2.2 z hz ha
          · rw [List.mem_singleton.1 hz] at ha ⊢
            exact fun hl => c ⟨ha, decide_eq_true_iff.2 hl⟩
    have := best_spec any after l (l' ++ [x]) _ h1
    rw [List.append_assoc] at this
    exact this
theorem best_is (any : Bool) (after : Key) (l : List (Key × Ent)) : Best any after l (best any after l) := by
  have := best_spec any after l [] none (fun x hx => (nomatch hx))
  rw [List.nil_append] at this
  exact this
/-- What lies in the answer. -/
def kvL (o : Option (Key × Ent)) : List Value := (o.getD (k0, e0)).1.L ++ (o.getD (k0, e0)).2.L
theorem kvL_len (o : Option (Key × Ent)) : (kvL o).length = 36 := by unfold kvL; rw [List.length_append, Key.len, Ent.len]
theorem kvL_ones (o : Option (Key × Ent)) : ∀ v ∈ kvL o, v.oneCell' = true := fun v hv => by
  rcases List.mem_append.1 hv with hv | hv
  · exact key_ones _ v hv
  · exact ent_ones _ v hv
theorem keyed_sizeG {C : List Value} (h : C.length = 36) : (Try.prog.info? 58).map (·.size) = some C.length := by
  rw [h]; kernel_rfl
/-- The pairs of the first tables. -/
def seen (T : Nat → Tab Key Ent) (i : Nat) : List (Key × Ent) := (List.range i).flatMap fun j => (T j).L
theorem seen_all (T : Nat → Tab Key Ent) : seen T 16 = IL T := rfl
theorem seen_succ (T : Nat → Tab Key Ent) (i : Nat) : seen T (i + 1) = seen T i ++ (T i).L := by unfold seen; rw [List.range_succ, List.flatMap_append]; simp
/-- Marks of loops that are over, the later ones ahead. -/
def MK : Nat → Nat → List Deferred → World → Prop
  | _, _, [], _ => True
  | lo, B, d :: ds, W => ∃ D, lo ≤ D ∧ D < B ∧ d = { target := .collected D, args := #[] } ∧ W.heap[D]? = some (.deferred (some [])) ∧ MK lo D ds W
theorem MK.mono {lo : Nat} {W : World} : ∀ {B B' : Nat} {ds : List Deferred}, MK lo B ds W → B ≤ B' → MK lo B' ds W
  | _, _, [], _, _ => trivial
  | B, B', d :: ds, h, hB => by
    obtain ⟨D, h1, h2, h3, h4, h5⟩ := h
    exact ⟨D, h1, Nat.lt_of_lt_of_le h2 hB, h3, h4, h5⟩
theorem MK.mod {lo : Nat} {W W' : World} {S : Nat → Prop} (m : Mod S W W') : ∀ {B : Nat} {ds : List Deferred}, MK lo B ds W → (∀ k, k < B → W.heap[k]? = some (.deferred (some [])) → ¬ S k) → MK lo B ds W'
  | _, [], _, _ => trivial
  | B, d :: ds, h, hs => by
    obtain ⟨D, h1, h2, h3, h4, h5⟩ := h
    have hD := (Array.getElem?_eq_some_iff.1 h4).1
    exact ⟨D, h1, h2, h3, (m.block D hD (hs D h2 h4)).trans h4, MK.mod m h5 (fun k hk hk' => hs k (Nat.lt_trans hk h2) hk')⟩
/-- Shutting the marks keeps every block of cells, and what lay below. -/
theorem leaves_marks {F : Fence} {n : Nat} {P : Program} {fn : Func} {tmps : Array Value} {R : Ending → World → Prop} {lo : Nat} : ∀ {ds : List Deferred} {B : Nat} {W : World}, MK lo B ds W → lo ≤ W.heap.size →
    (∀ W', Below lo W W' → (∀ b t c, Blk W b t c → Blk W' b t c) → LeavesInM F n P fn tmps R [] .returning W') → LeavesInM F n P fn tmps R ds .returning W
  | [], B, W, _, _, hf => hf W (Below.refl _ _) (fun _ _ _ h => h)
  | d :: ds, B, W, h, hlo, hf => by
    obtain ⟨D, h1, h2, rfl, h4, h5⟩ := h
    have hD := (Array.getElem?_eq_some_iff.1 h4).1
    have hb : Below lo W (W.putObj D (.deferred none)) := (Below.refl lo W).grown (grownBy_putObj' W D (.deferred none)) hlo (fun k e => by cases e; exact h1)
    have hm : Mod (one D) W (W.putObj D (.deferred none)) := Mod.of_grown (grownBy_putObj' W D (.deferred none)) (fun k _ e => by cases e; rfl)
    have hc : ∀ b t c, Blk W b t c → Blk (W.putObj D (.deferred none)) b t c := fun b t c hB => hB.mod hm (fun e => by
      have e : b = D := e
      subst e
      have hB : W.heap[b]? = some (.cells c t (0, 0)) := hB
      rw [h4] at hB
      cases hB)
    refine ⟨by simp, .inl ⟨_, _, rfl, run_takeDeferred h4, ?_⟩⟩
    refine leaves_marks (lo := lo) (B := D) (ds := ds) (h5.mod hm (fun k hk _ e => by have e : k = D := e; omega)) (Nat.le_trans hlo hb.size) ?_
    exact fun W' hW hW' => hf W' (hb.trans hW) (fun b t c hB => hW' b t c (hc b t c hB))
end Go.Proofs.Ytknbehjhaaidoaa.IX
