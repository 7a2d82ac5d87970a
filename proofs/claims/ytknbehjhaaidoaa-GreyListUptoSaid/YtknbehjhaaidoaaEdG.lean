/- Rows of entries that the law makes itself (printed by greyown.py). -/
import Derived.Test.YtknbehjhaaidoaaEdF
namespace Go.Proofs.Ytknbehjhaaidoaa.DG
open Go.RowKit Mem DQ
set_option linter.unusedVariables false
set_option linter.unusedSimpArgs false

/-- The entry of nothing that was touched so often. -/
def mk (z : Int) : List Value := List.replicate 32 (.int .u8 0) ++ [.int .i64 z]
theorem mk_ele (z : Int) : Ele (mk z) := ⟨rfl, fun v hv => by
  rcases List.mem_append.1 hv with h | h
  · rw [List.eq_of_mem_replicate h]; rfl
  · simp at h; subst h; rfl⟩
theorem mk_next (z : Int) : (mk z)[32]? = some (.int .i64 z) := rfl
set_option maxRecDepth 100000 in
theorem mk_built (z : Int) : Try.prog.built 89 [(1, .int .i64 z)] = some (mk z).toArray := by kernel_rfl
theorem y_mk {a : Act} {o : Oper} {w : World} {x : Operand} {z : Int} (ho : o.op = .build 89 #[(1, x)]) (hx : a.eval x = .int .i64 z) : (execOp a.eval o).run Try.prog w = .ok (.value (.agg (mk z).toArray)) w := by
  have h := run_build (P := Try.prog) w 89 #[(1, .int .i64 z)] _ (mk_built z)
  unfold execOp
  simp only [ho, hx, List.map_toArray, List.map_cons, List.map_nil, Sem.run_bind, h, Result.andThen_ok, Sem.run_pure]
theorem wpList_mk {ops : Array Oper} {rest : List Oper} {o : Oper} {a : Act} {w : World} {Q : Exit → Act → World → Prop} (hgd : o.guard = none) (x : Operand) (ho : o.op = .build 89 #[(1, x)]) (z : Int) (hx : a.eval x = .int .i64 z)
    (h : wpList Try.prog ops Q rest (a.put o.dst (.agg (mk z).toArray)) w) : wpList Try.prog ops Q (o :: rest) a w :=
  wpList_plain hgd fun K hK => op_yield (y_mk ho hx) (hK _ _ h)

theorem take_mid {α : Type} {c x : List α} {o m : Nat} (h : o + x.length ≤ m) (hm : m ≤ c.length) : (c.take o ++ x ++ c.drop (o + x.length)).take m = (c.take m).take o ++ x ++ (c.take m).drop (o + x.length) := by
  apply List.ext_getElem?
  intro j
  simp only [List.getElem?_take, List.getElem?_append, List.length_append, List.length_take, List.getElem?_drop]
  grind
theorem own_put33 {w : World} {base g n cap i : Nat} {L : List (List Value)} {x : List Value} (h : w.ownsRow base 89 33 (.slice (some ⟨g, 0, none⟩) n cap) L.length L.flatten) (he : ∀ x ∈ L, Ele x) (hi : i < L.length) (hx : Ele x) :
    (w.setCells g (i * 33) x).ownsRow base 89 33 (.slice (some ⟨g, 0, none⟩) n cap) L.length (L.set i x).flatten ∧ w.there g (i * 33) 33 := by
  have hl : ∀ y ∈ L, y.length = 33 := fun y hy => (he y hy).1
  rcases h.2 with ⟨h1, _⟩ | ⟨g', cap', cur, h1, h2, h3, h4, h5, h6, h7⟩
  · cases h1
  · injection h1 with h1 h8 h9
    injection h1 with h1
    injection h1 with h1
    subst h1 h8 h9
    have hb : Blk w g 89 cur := h3
    have hcl : cur.toList.length = cap * 33 := by simpa using h6
    have hcs : L.length * 33 ≤ cur.toList.length := by
      rw [hcl]; exact Nat.mul_le_mul_right _ h4
    have hof : i * 33 + 33 ≤ L.length * 33 := by
      rw [show i * 33 + 33 = (i + 1) * 33 by omega]; exact Nat.mul_le_mul_right _ hi
    have hb' : Blk w g 89 cur.toList.toArray := hb
    have hp := blk_sets g x (i * 33) cur.toList w hb' (by rw [hx.1]; omega)
    refine ⟨⟨?_, .inr ⟨g, cap, _, rfl, h2, hp, h4, h5, ?_, ?_⟩⟩, fun j hj => ⟨?_, hb.free _⟩⟩
    · rw [flat_len _ (fun y hy => (set_ele he hx y hy).1), List.length_set]
    · rw [List.size_toArray]
      simp only [List.length_append, List.length_take, List.length_drop, hx.1]
      omega
    · have ht := take_mid (c := cur.toList) (x := x) (o := i * 33) (m := L.length * 33) (by rw [hx.1]; exact hof) hcs
      rw [h7] at ht
      rw [flat_set L i x hl hi]
      rw [hx.1] at ht ⊢
      exact ht
    · rw [hb.cell, Array.getElem?_eq_getElem (by rw [h6]; omega)]
      rfl
/-- A row of the call's own is as it was where its block is. -/
theorem own_blk {S : Nat → Prop} {w w' : World} {base n : Nat} {v : Value} {xs : List Value} (h : w.ownsRow base 89 33 v n xs) (hm : Mod S w w') (hn : ∀ g, v.ownBlock = some g → ¬ S g) : w'.ownsRow base 89 33 v n xs := by
  refine ⟨h.1, ?_⟩
  rcases h.2 with h2 | ⟨g, cap, cur, h1, h2, h3, h4⟩
  · exact .inl h2
  · have hlt : g < w.heap.size := Blk.lt (show Blk w g 89 cur from h3)
    exact .inr ⟨g, cap, cur, h1, h2, (hm.block g hlt (hn g (by rw [h1]; rfl))).trans h3, h4⟩

/-- A row of the call's own, whose first k entries are numbered from z on downwards. -/
def Num (w : World) (base : Nat) (v : Value) (n k : Nat) (z : Int) : Prop := ∃ L : List (List Value), L.length = n ∧ w.ownsRow base 89 33 v n L.flatten ∧ (∀ x ∈ L, Ele x) ∧ ∀ j : Nat, j < k → L[j]? = some (mk (z - (j : Int)))
/-- Entries that are numbered, wherever they lie. -/
def Cel (w : World) (g n : Nat) (z : Int) : Prop := ∀ j : Nat, j < n → g < w.heap.size ∧ w.rangeAt g (j * 33) (mk (z - (j : Int)))
section
variable {w w' : World} {base g n cap k : Nat} {v : Value} {z : Int} {S : Nat → Prop}
theorem Num.of_own {L : List (List Value)} (h : w.ownsRow base 89 33 v L.length L.flatten) (he : ∀ x ∈ L, Ele x) : Num w base v L.length 0 z := ⟨L, rfl, h, he, fun j hj => absurd hj (by omega)⟩
theorem Num.head (h : Num w base v n k z) (hn : 0 < n) : ∃ g cap, v = .slice (some ⟨g, 0, none⟩) n cap ∧ base ≤ g ∧ g < w.heap.size := by
  obtain ⟨L, rfl, ho, _⟩ := h
  obtain ⟨g, cap, h1, h2, h3, _⟩ := own_head ho hn
  exact ⟨g, cap, h1, h2, h3⟩
theorem Num.form (h : Num w base v n k z) : ∃ A c, v = .slice A n c := by
  obtain ⟨L, rfl, ho, _⟩ := h
  exact own_form ho
theorem Num.put (h : Num w base (.slice (some ⟨g, 0, none⟩) n cap) n k z) (hk : k < n) : Num (w.setCells g (k * 33) (mk (z - (k : Int)))) base (.slice (some ⟨g, 0, none⟩) n cap) n (k + 1) z ∧ w.there g (k * 33) 33 := by
  obtain ⟨L, rfl, ho, he, hj⟩ := h
  obtain ⟨h1, h2⟩ := own_put33 ho he hk (mk_ele (z - (k : Int)))
  refine ⟨⟨L.set k (mk (z - (k : Int))), List.length_set, h1, set_ele he (mk_ele _), fun j hjk => ?_⟩, h2⟩
  by_cases e : k = j
  · subst e
    rw [List.getElem?_set_self hk]
  · rw [List.getElem?_set_ne e]
    exact hj j (by omega)
theorem Num.blk (h : Num w base v n k z) (hm : Mod S w w') (hn : ∀ g, v.ownBlock = some g → ¬ S g) : Num w' base v n k z := by
  obtain ⟨L, hl, ho, he, hj⟩ := h
  exact ⟨L, hl, own_blk ho hm hn, he, hj⟩
theorem Num.mod_no (h : Num w base v n k z) (hm : Mod no w w') : Num w' base v n k z := h.blk hm fun _ _ c => c
theorem Num.range (h : Num w base (.slice (some ⟨g, 0, none⟩) n cap) n k z) (hkn : k ≤ n) {j : Nat} (hj : j < k) : w.rangeAt g (j * 33) (mk (z - (j : Int))) := by
  obtain ⟨L, rfl, ho, he, hjj⟩ := h
  exact own_range ho he (hjj j hj)
theorem Num.cel (h : Num w base (.slice (some ⟨g, 0, none⟩) n cap) n n z) : Cel w g n z := fun j hj => by
  obtain ⟨g', cap', e, _, hlt⟩ := h.head (by omega)
  injection e with e
  injection e with e
  injection e with e
  subst e
  exact ⟨hlt, h.range (Nat.le_refl _) hj⟩
theorem Cel.mod (h : Cel w g n z) (hm : Mod S w w') (hn : ∀ j : Nat, j < n → ¬ S g) : Cel w' g n z := fun j hj => by
  obtain ⟨h1, h2⟩ := h j hj
  refine ⟨Nat.lt_of_lt_of_le h1 hm.size, fun i u hu => ?_⟩
  rw [hm.cell h1 (hn j hj)]
  exact h2 i u hu
theorem Cel.next (h : Cel w g n z) {j : Nat} (hj : j < n) : w.cell? ⟨g, j * 33 + 32, none⟩ = some (.int .i64 (z - (j : Int))) := (h j hj).2 32 _ (mk_next _)
end

section
variable {P : Program} (w : World)
theorem run_append_k (base : Nat) (t ty e : TypeId) (i : TypeInfo) (z : Value) (size bytes : Nat) (ht : P.underlying t = some (.slice e)) (hi : P.info? e = some i) (hz : i.zero = some z)
    (hsize : i.size = size) (hby : i.bytes = bytes) (hzs : z.cells.size = size) (hsz : 0 < size)
    (v : Value) (n : Nat) (xs : List Value) (hown : w.ownsRow base e size v n xs) (A : Option Addr) (m c : Nat) (news : List Value) (hr : Rds w size A m news) (h1 : ∀ u ∈ news, u.oneCell' = true)
    (h63 : n + m ≤ maxLen) (hbytes : (n + m) * bytes ≤ 140737488355328) (hbase : base ≤ w.heap.size) :
    ∃ v' w', (Builtin.append_ #[t, t] ty #[v, .slice A m c]).run P w = .ok v' w' ∧ w'.ownsRow base e size v' (n + m) (xs ++ news) ∧ w.grownBy w' v.ownBlock ∧
      (v'.ownBlock = v.ownBlock ∨ v'.ownBlock = some w.heap.size ∧ Mod no w w') := by
  obtain ⟨v', w', hrun, h2, h3, h4, _⟩ := run_append (P := P) w base t ty e i z size bytes ht hi hz hsize hby hzs hsz v n xs hown A m c news hr h1 h63 hbytes hbase
  refine ⟨v', w', hrun, h2, h3, ?_⟩
  subst hsize hby
  have hsmall : n + m ≤ 9223372036854775807 := by simp only [maxLen] at h63; omega
  rcases hown.2 with ⟨rfl, rfl⟩ | ⟨g, cap, cur, rfl, hbg, hg, hnc, hcm, hcs, htake⟩
  · rcases h4 with h4 | h4
    · exact .inl h4
    · exact .inr ⟨h4, Mod.of_grown h3 fun k hk e => by simp [Value.ownBlock] at e⟩
  · rcases A with _ | a
    · obtain rfl : m = 0 := by
        rcases Nat.eq_zero_or_pos m with h0 | h0
        · exact h0
        · obtain ⟨ad, h, _⟩ := hr.2 h0
          cases h
      rw [run_append_nothing w base t ty e i i.size ht hi _ n xs hown c] at hrun
      injection hrun with hr1 hr2
      subst hr1
      exact .inl rfl
    · have hnews : ∀ j u, news[j]? = some u → w.cell? (a.add j) = some u := by
        intro j u hu
        rcases Nat.eq_zero_or_pos m with h0 | h0
        · subst h0
          obtain rfl : news = [] := List.eq_nil_of_length_eq_zero (by simpa using hr.1)
          simp at hu
        · obtain ⟨ad', h, hc⟩ := hr.2 h0
          injection h with h
          subst h
          exact hc j u hu
      by_cases hroom : n + m ≤ cap
      · have hfit : n * i.size + news.length ≤ cur.size := by rw [hr.1, hcs, ← Nat.add_mul]; exact Nat.mul_le_mul_right _ hroom
        rw [run_append_room (P := P) w t ty e i ht hi g n cap cur hg a m c news hr.1 hnews h1 hroom hfit] at hrun
        injection hrun with hr1 hr2
        subst hr1
        exact .inl rfl
      · have holds : ∀ j u, xs[j]? = some u → w.cell? ((⟨g, 0, none⟩ : Addr).add j) = some u := hown.cells (g := g) rfl
        rw [run_append_grow (P := P) w t ty e i z ht hi hz ⟨g, 0, none⟩ n cap xs hown.1 holds a m c news hr.1 hnews (by omega) (by omega) (growslice_fits (by omega) hbytes)] at hrun
        injection hrun with hr1 hr2
        subst hr1 hr2
        exact .inr ⟨rfl, ((Mod.refl no w).drew).alloc _⟩

end

/-- One entry more: what the row's block held stays, wherever the row goes on. -/
theorem wpList_appK {ops : Array Oper} {rest : List Oper} {o : Oper} {a : Act} {w : World} {Q : Exit → Act → World → Prop} (hgd : o.guard = none) (s q : Operand) (ho : o.op = .call { callee := .builtin .append, args := #[s, q], argTypes := #[35, 35] }) (base m b : Nat) (v : Value) (z : Int)
    (hs : a.eval s = v) (hq : a.eval q = .slice (some ⟨b, 0, none⟩) 1 1) (hown : Num w base v m m z) (hb : Blk w b 89 (mk (z - (m : Int))).toArray) (hm : m ≤ 2097152) (hbase : base ≤ w.heap.size)
    (ga gb n : Nat) (z2 : Int) (hca : Cel w ga n z) (hcb : Cel w gb n z2) (hnm : n ≤ m) (hgb : ∀ j : Nat, j < n → v.ownBlock ≠ some gb)
    (h : ∀ v' w', Num w' base v' (m + 1) (m + 1) z → Cel w' ga n z → Cel w' gb n z2 → (∀ j : Nat, j < n → v'.ownBlock ≠ some gb) → (∀ W : World, W.heap.size ≤ base → Mod no W w → Mod no W w') → wpList Try.prog ops Q rest (a.put o.dst v') w') : wpList Try.prog ops Q (o :: rest) a w := by
  obtain ⟨i0, hi, hz0, hz1, hz2⟩ := info_parts grey_zero
  obtain ⟨L, rfl, hrow, he, hj⟩ := hown
  refine wpList_plain hgd fun K hK => ?_
  obtain ⟨v', w', hrun, h2, h3, h4⟩ := run_append_k (P := Try.prog) w base 35 o.type 89 i0 (.agg zl.toArray) 33 40 Try.underlying35 hi hz0 hz1 hz2 rfl (by decide) v L.length L.flatten hrow (some ⟨b, 0, none⟩) 1 1 (mk (z - (L.length : Int))) (Rds.of_blk hb (mk_ele _).1 (fun j u hu => by rw [Nat.zero_add, List.getElem?_toArray]; exact hu)) (mk_ele _).2 (by simp only [maxLen]; omega) (by omega) hbase
  have hN : Num w' base v' (L.length + 1) (L.length + 1) z := by
    refine ⟨L ++ [mk (z - (L.length : Int))], by simp, ?_, fun x hx => ?_, fun j hjl => ?_⟩
    · rw [List.flatten_append]
      simpa using h2
    · rcases List.mem_append.1 hx with hx | hx
      · exact he x hx
      · simp at hx; subst hx; exact mk_ele _
    · by_cases e : j < L.length
      · rw [List.getElem?_append_left e]; exact hj j e
      · obtain rfl : j = L.length := by omega
        simp
  have hM : Mod (fun k => v.ownBlock = some k) w w' := Mod.of_grown h3 fun k _ e => e
  unfold Oper.wp execOp
  simp only [ho, resolve, invoke, builtin, Sem.run_bind, Sem.run_pure, Result.andThen_ok, List.map_toArray, List.map_cons, List.map_nil, hs, hq, hrun]
  refine hK _ _ (h v' w' hN ?_ ?_ ?_ ?_)
  · rcases h4 with h4 | ⟨_, h4⟩
    · by_cases e : v.ownBlock = some ga
      · intro j hj
        obtain ⟨g', cap', e', _, hlt⟩ := hN.head (by omega)
        rw [e', e] at h4
        have h4 : some g' = some ga := h4
        injection h4 with h4
        subst h4 e'
        exact ⟨hlt, hN.range (Nat.le_refl _) (by omega)⟩
      · exact hca.mod hM fun _ _ => e
    · exact hca.mod h4 fun _ _ c => c
  · exact hcb.mod hM fun j hj => hgb j hj
  · intro j hj
    rcases h4 with h4 | ⟨h4, _⟩
    · rw [h4]; exact hgb j hj
    · rw [h4]
      intro e
      injection e with e
      have := (hcb j hj).1
      omega
  · intro W hW hm
    exact app_mod hrow h3 hW hm

end Go.Proofs.Ytknbehjhaaidoaa.DG
