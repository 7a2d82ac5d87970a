/- A row of numbers of the call's own, wherever in its block it begins: append of one. No program's function here. -/
import Derived.Test.YtoncjoelkenjnaaPlM
import Derived.ArgAppend
namespace Go.Proofs.Ytoncjoelkenjnaa.PL
open Go.RowKit Mem Go.Proofs.Ytoncjoelkenjnaa.SS
set_option linter.unusedVariables false
set_option linter.unusedSimpArgs false

/-- The slice '.slice A n c' is a row of the call's own with the numbers L; where it has memory it lies in a block from base on. -/
def Row (w : World) (base : Nat) (e : TypeId) (A : Option Addr) (n c : Nat) (L : List Int) : Prop :=
  L.length = n ∧ ((A = none ∧ n = 0 ∧ c = 0) ∨ ∃ g o Pre R, A = some ⟨g, o, none⟩ ∧ base ≤ g ∧ Blk w g e (Pre ++ L.map iv ++ R).toArray ∧ Pre.length = o ∧ n + R.length = c)
/-- The row's own block. -/
def ofA (A : Option Addr) : Nat → Prop := fun k => ∃ o, A = some ⟨k, o, none⟩
section
variable {S : Nat → Prop} {w w' : World} {base n c : Nat} {e : TypeId} {A : Option Addr} {L : List Int}
theorem Row.nil (w : World) (base : Nat) (e : TypeId) : Row w base e none 0 0 [] := ⟨rfl, .inl ⟨rfl, rfl, rfl⟩⟩
theorem Row.mod (h : Row w base e A n c L) (m : Mod S w w') (hs : ∀ k, base ≤ k → k < w.heap.size → ofA A k → ¬ S k) : Row w' base e A n c L := by
  refine ⟨h.1, ?_⟩
  rcases h.2 with h2 | ⟨g, o, Pre, R, rfl, h3, h4, h5, h6⟩
  · exact .inl h2
  · exact .inr ⟨g, o, Pre, R, rfl, h3, h4.mod m (hs g h3 h4.lt ⟨o, rfl⟩), h5, h6⟩
theorem Row.lt (h : Row w base e A n c L) {k : Nat} (hk : ofA A k) : base ≤ k ∧ k < w.heap.size := by
  obtain ⟨o', rfl⟩ := hk
  rcases h.2 with ⟨h2, _⟩ | ⟨g, o, Pre, R, h2, h3, h4, _⟩
  · cases h2
  · injection h2 with h2
    injection h2 with h2
    subst h2
    exact ⟨h3, h4.lt⟩
/-- An element. -/
theorem Row.get (h : Row w base e A n c L) {j : Nat} (hj : j < n) : ∃ g o, A = some ⟨g, o, none⟩ ∧ base ≤ g ∧ g < w.heap.size ∧ w.cell? ⟨g, o + j, none⟩ = some (.int .i64 (L.getD j 0)) ∧ w.frozen? ⟨g, o + j, none⟩ = false := by
  obtain ⟨hl, h2⟩ := h
  rcases h2 with ⟨_, h2, _⟩ | ⟨g, o, Pre, R, rfl, h3, h4, h5, h6⟩
  · omega
  · refine ⟨g, o, rfl, h3, h4.lt, ?_, h4.free _⟩
    rw [h4.cell, List.getElem?_toArray, List.append_assoc, List.getElem?_append_right (by omega), List.getElem?_append_left (by rw [List.length_map]; omega), List.getElem?_map, show o + j - Pre.length = j by omega, List.getElem?_eq_getElem (by omega)]
    rw [List.getD_eq_getElem?_getD, List.getElem?_eq_getElem (by omega)]
    rfl
/-- An element is set. -/
theorem Row.set (h : Row w base e A n c L) {g o j : Nat} (hA : A = some ⟨g, o, none⟩) (hj : j < n) (u : Int) : Row (w.setCell ⟨g, o + j, none⟩ (.int .i64 u)) base e A n c (L.set j u) := by
  obtain ⟨hl, h2⟩ := h
  refine ⟨by rw [List.length_set]; exact hl, ?_⟩
  rcases h2 with ⟨h2, _⟩ | ⟨g', o', Pre, R, h2, h3, h4, h5, h6⟩
  · rw [h2] at hA; cases hA
  · rw [hA] at h2
    injection h2 with h2
    injection h2 with h7 h8
    subst h7 h8
    refine .inr ⟨g, o, Pre, R, hA, h3, ?_, h5, h6⟩
    have h9 := h4.put (o + j) (.int .i64 u)
    have e1 : (Pre ++ L.map iv ++ R).toArray.setIfInBounds (o + j) (.int .i64 u) = (Pre ++ (L.set j u).map iv ++ R).toArray := by
      rw [List.setIfInBounds_toArray]
      congr 1
      rw [List.append_assoc, List.append_assoc, List.set_append_right _ _ (by omega), show o + j - Pre.length = j by omega, List.set_append_left _ _ (by rw [List.length_map]; omega), List.map_set]
      rfl
    rw [← e1]
    exact h9
theorem Row.of_own {xs : List Value} {v : Value} (h : w.ownsRow base e 1 v n xs) (hx : xs = L.map iv) : ∃ A c, v = .slice A n c ∧ Row w base e A n c L := by
  subst hx
  have hl : L.length = n := by have := h.1; simpa using this
  rcases h.2 with ⟨rfl, rfl⟩ | ⟨g, cap, cur, rfl, hb, hg, hnc, hcm, hcs, ht⟩
  · exact ⟨none, 0, rfl, hl, .inl ⟨rfl, rfl, rfl⟩⟩
  · refine ⟨_, _, rfl, hl, .inr ⟨g, 0, [], cur.toList.drop n, rfl, hb, ?_, rfl, ?_⟩⟩
    · have e1 : cur = ([] ++ L.map iv ++ cur.toList.drop n).toArray := by
        apply Array.ext'
        rw [List.nil_append, ← ht, Nat.mul_one, List.take_append_drop]
      rw [← e1]
      exact hg
    · rw [List.length_drop, Array.length_toList, hcs]; omega
/-- The row without its first element. -/
theorem Row.tail {x : Int} (h : Row w base e A n c (x :: L)) : ∃ g o, A = some ⟨g, o, none⟩ ∧ Row w base e (some ⟨g, o + 1, none⟩) (n - 1) (c - 1) L := by
  obtain ⟨hl, h2⟩ := h
  rw [List.length_cons] at hl
  rcases h2 with ⟨_, h2, _⟩ | ⟨g, o, Pre, R, rfl, h3, h4, h5, h6⟩
  · omega
  · refine ⟨g, o, rfl, by omega, .inr ⟨g, o + 1, Pre ++ [iv x], R, rfl, h3, ?_, by rw [List.length_append, h5]; rfl, by omega⟩⟩
    have e1 : Pre ++ (x :: L).map iv ++ R = Pre ++ [iv x] ++ L.map iv ++ R := by simp
    rw [← e1]
    exact h4
/-- 'append(v, u)'. -/
theorem wpList_row1 {ops : Array Oper} {rest : List Oper} {o : Oper} {a : Act} {Q : Exit → Act → World → Prop} (hgd : o.guard = none) (s x : Operand) (t : TypeId)
    (ho : o.op = .call { callee := .builtin .append, args := #[s, x], argTypes := #[t, t] })
    (base : Nat) (e : TypeId) (ht : Try.prog.underlying t = some (.slice e)) (he : (Try.prog.info? e).map (fun i => (i.zero, i.size, i.bytes)) = some (some (.int .i64 0), 1, 8))
    (w : World) (A : Option Addr) (n c : Nat) (L : List Int) (u : Int) (hs : a.eval s = .slice A n c) (hx : a.eval x = .slice (some ⟨w.heap.size, 0, none⟩) 1 1)
    (hr : Row w base e A n c L) (hn : n ≤ 1048600) (hb : base ≤ w.heap.size)
    (h : ∀ A' c' w', Row w' base e A' (n + 1) c' (L ++ [u]) → Mod (ofA A) w w' → w.heap.size < w'.heap.size → (∀ k, ofA A' k → ofA A k ∨ w.heap.size ≤ k) → wpList Try.prog ops Q rest (a.put o.dst (.slice A' (n + 1) c')) w') :
    wpList Try.prog ops Q (o :: rest) a (w.alloc (.cells #[.int .i64 u] e)) := by
  obtain ⟨i, hi, hz0, hz1, hz2⟩ := info_parts he
  have hcell : ∀ j v, [Value.int .i64 u][j]? = some v → (w.alloc (.cells #[.int .i64 u] e)).cell? ((⟨w.heap.size, 0, none⟩ : Addr).add j) = some v := by
    intro j v hj
    match j, hj with
    | 0, hj =>
      simp at hj
      subst hj
      rw [add_plain, (Blk.new w e _).cell]
      rfl
  have hM : Mod (ofA A) w (w.alloc (.cells #[.int .i64 u] e)) := (Mod.refl _ w).alloc _
  have hsz : w.heap.size < (w.alloc (.cells #[.int .i64 u] e)).heap.size := by simp
  have hr2 := hr.mod (S := no) ((Mod.refl no w).alloc (.cells #[.int .i64 u] e)) (fun _ _ _ _ c => c)
  refine wpList_plain hgd fun K hK => ?_
  suffices hh : ∃ A' c' w', (Builtin.append_ #[t, t] o.type #[.slice A n c, .slice (some ⟨w.heap.size, 0, none⟩) 1 1]).run Try.prog (w.alloc (.cells #[.int .i64 u] e)) = .ok (.slice A' (n + 1) c') w' ∧ Row w' base e A' (n + 1) c' (L ++ [u]) ∧ Mod (ofA A) w w' ∧ w.heap.size < w'.heap.size ∧ (∀ k, ofA A' k → ofA A k ∨ w.heap.size ≤ k) by
    obtain ⟨A', c', w', hrun, h1, h2, h3, h4⟩ := hh
    unfold Oper.wp execOp
    simp only [ho, resolve, invoke, builtin, Sem.run_bind, Sem.run_pure, Result.andThen_ok, List.map_toArray, List.map_cons, List.map_nil, hs, hx, hrun]
    exact hK _ _ (h A' c' w' h1 h2 h3 h4)
  have fin : ∀ v' w', w'.ownsRow (w.alloc (.cells #[.int .i64 u] e)).heap.size e 1 v' (n + 1) (L.map iv ++ [.int .i64 u]) → (w.alloc (.cells #[.int .i64 u] e)).grownBy w' none →
      ∃ A' c', v' = .slice A' (n + 1) c' ∧ Row w' base e A' (n + 1) c' (L ++ [u]) ∧ Mod (ofA A) w w' ∧ w.heap.size < w'.heap.size ∧ (∀ k, ofA A' k → ofA A k ∨ w.heap.size ≤ k) := by
    intro v' w' hown hg
    obtain ⟨A', c', rfl, hrow⟩ := Row.of_own (L := L ++ [u]) hown (by rw [List.map_append]; rfl)
    have hm' : Mod no (w.alloc (.cells #[.int .i64 u] e)) w' := Mod.of_grown hg (fun _ _ e => by cases e)
    refine ⟨A', c', rfl, ?_, hM.trans hm' (fun _ _ c => c.elim), Nat.lt_of_lt_of_le hsz hm'.size, fun k hk => .inr (Nat.le_of_lt (Nat.lt_of_lt_of_le hsz (hrow.lt hk).1))⟩
    refine ⟨hrow.1, ?_⟩
    rcases hrow.2 with h2 | ⟨g, o', Pre, R, h2, h3, h4⟩
    · exact .inl h2
    · exact .inr ⟨g, o', Pre, R, h2, by omega, h4⟩
  rcases hr2.2 with ⟨rfl, rfl, rfl⟩ | ⟨g, o', Pre, R, rfl, hg0, hg1, hg2, hg3⟩
  · have hL : L = [] := List.eq_nil_of_length_eq_zero hr2.1
    subst hL
    obtain ⟨v', w', h1, h2, h3, h4, h5⟩ := run_append_own_at (P := Try.prog) (w.alloc (.cells #[.int .i64 u] e)) (w.alloc (.cells #[.int .i64 u] e)).heap.size t o.type e i (.int .i64 0) 1 8 ht hi hz0 hz1 hz2 rfl (by decide) (.slice none 0 0) 0 [] (World.ownsRow_nil _ _ _ _) ⟨w.heap.size, 0, none⟩ 1 1 [.int .i64 u] rfl hcell (fun v hv => by simp at hv; subst hv; rfl) (by decide) (by decide) (Nat.le_refl _)
    obtain ⟨A', c', rfl, h6⟩ := fin v' w' h2 h3
    exact ⟨A', c', w', h1, h6⟩
  · by_cases hroom : n + 1 ≤ c
    · obtain ⟨r0, R', rfl⟩ : ∃ r0 R', R = r0 :: R' := by
        cases R with
        | nil => simp at hg3; omega
        | cons r R' => exact ⟨r, R', rfl⟩
      have hsize : (Pre ++ L.map iv).length = o' + n := by rw [List.length_append, List.length_map, hg2, hr2.1]
      have h1 := run_append_room_cells (P := Try.prog) (w.alloc (.cells #[.int .i64 u] e)) t o.type e i ht hi g o' n c ⟨w.heap.size, 0, none⟩ 1 1 [.int .i64 u] (by rw [hz1]; rfl) hcell (fun v hv => by simp at hv; subst hv; rfl) hroom
        (fun j hj => by
          have : j = 0 := by simp at hj; exact hj
          subst this
          rw [hz1, hg1.cell, List.getElem?_toArray, List.getElem?_append_right (by omega)]
          simp [hsize]) (fun j _ => hg1.free _)
      rw [hz1] at h1
      have hput := hg1.put (o' + n) (.int .i64 u)
      have hw : (w.alloc (.cells #[.int .i64 u] e)).setCells g (o' + n * 1) [.int .i64 u] = (w.alloc (.cells #[.int .i64 u] e)).setCell ⟨g, o' + n, none⟩ (.int .i64 u) := by rw [Nat.mul_one]; rfl
      rw [hw] at h1
      have e1 : (Pre ++ L.map iv ++ r0 :: R').toArray.setIfInBounds (o' + n) (.int .i64 u) = (Pre ++ (L ++ [u]).map iv ++ R').toArray := by
        rw [List.setIfInBounds_toArray]
        congr 1
        rw [← hsize, set_mid]
        simp [iv]
      rw [e1] at hput
      refine ⟨_, _, _, h1, ⟨by rw [List.length_append, hr2.1]; rfl, .inr ⟨g, o', Pre, R', rfl, hg0, hput, hg2, by simp at hg3; omega⟩⟩, hM.set (p := ⟨g, o' + n, none⟩) (fun _ => ⟨o', rfl⟩) _, by simp [World.setCell], fun k hk => .inl hk⟩
    · have holds : ∀ j v, (L.map iv)[j]? = some v → (w.alloc (.cells #[.int .i64 u] e)).cell? ((⟨g, o', none⟩ : Addr).add j) = some v := by
        intro j v hj
        have hjl : j < (L.map iv).length := by
          rcases Nat.lt_or_ge j (L.map iv).length with c | c
          · exact c
          · rw [List.getElem?_eq_none c] at hj; cases hj
        rw [add_plain, hg1.cell, List.getElem?_toArray, List.append_assoc, List.getElem?_append_right (by omega), List.getElem?_append_left (by omega), show o' + j - Pre.length = j by omega]
        exact hj
      obtain ⟨v', w', h1, h2, h3⟩ := run_append_arg_grows (P := Try.prog) (w.alloc (.cells #[.int .i64 u] e)) t o.type e i (.int .i64 0) 1 8 ht hi hz0 hz1 hz2 rfl (by decide) ⟨g, o', none⟩ n c (L.map iv) (by rw [List.length_map, hr2.1, Nat.mul_one]) holds ⟨w.heap.size, 0, none⟩ 1 1 [.int .i64 u] rfl hcell (by omega) (by simp only [maxLen]; omega) (by omega)
      obtain ⟨A', c', rfl, h6⟩ := fin v' w' h2 h3
      exact ⟨A', c', w', h1, h6⟩
end
end Go.Proofs.Ytoncjoelkenjnaa.PL
