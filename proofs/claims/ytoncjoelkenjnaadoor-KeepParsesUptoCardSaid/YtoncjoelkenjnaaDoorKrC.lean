/- The program's Print (printed by keepprint.py). -/
import Derived.Test.YtoncjoelkenjnaaDoorKrB
import Derived.Test.YtoncjoelkenjnaaDoorKrS
import Derived.Test.YtoncjoelkenjnaaDoorHeld
import Derived.Lib.SmallJoins
import Derived.Great.BuildSlice
import Derived.Deep.MidRow
namespace Go.Proofs.YtoncjoelkenjnaaDoor.KR
open Go.RowKit Mem HD
set_option linter.unusedVariables false
set_option linter.unusedSimpArgs false

/-- The library's table of powers. -/
def TW (w : World) : Prop := Lib.TabIs Tryd.prog w "internal/strconv.uint64pow10" .u64 Lib.pow10Tab
theorem TW.mod {w w' : World} (h : TW w) (m : Mod no w w') : TW w' :=
  Go.Joins.tab_stays (g := 0) (by kernel_rfl) h (m.below (Nat.le_refl _) (fun _ _ c => c.elim)) (Nat.le_refl _)
theorem grow_mod (w : World) (os : Array Obj) : Mod no w (Go.Sort.grow w os) := ⟨rfl, rfl, rfl, by simp [Go.Sort.grow], fun k hk _ => by simp [Go.Sort.grow, Array.getElem?_append, hk]⟩
theorem format_m {w : World} {n : Int} (h0 : -9223372036854775808 ≤ n) (h1 : n ≤ 9223372036854775807) (hT : TW w) : Calls Tryd.prog 11 #[.int .i64 n, .int .i64 10] w fun e w' => e = .returned (.string (sv (Lib.itoa n))) ∧ Mod no w w' :=
  (strconv_FormatInt_10 n h0 h1 w hT).mono fun e w' ⟨he, k, os, hw⟩ => ⟨he, by rw [hw]; exact ((Mod.refl no w).drewN k).and_then (grow_mod _ _)⟩
theorem itoa_len {n : Int} (h0 : 0 ≤ n) (h1 : n ≤ 9223372036854775807) : (Lib.itoa n).length ≤ 20 := by
  obtain ⟨u, rfl⟩ : ∃ u : Nat, n = (u : Int) := ⟨n.toNat, by omega⟩
  rw [Lib.itoa_nonneg]
  exact dec_len (by omega)
theorem own_mod {S : Nat → Prop} {w w' : World} {base : Nat} {e : TypeId} {size : Nat} {v : Value} {n : Nat} {xs : List Value} (h : w.ownsRow base e size v n xs) (hm : Mod S w w') (hs : ∀ k, base ≤ k → ¬ S k) : w'.ownsRow base e size v n xs := by
  refine ⟨h.1, ?_⟩
  rcases h.2 with h2 | ⟨g, cap, cur, hv, hg, hb, r⟩
  · exact .inl h2
  · exact .inr ⟨g, cap, cur, hv, hg, Blk.mod (show Blk w g e cur from hb) hm (hs g hg), r⟩
/-- The rows of e that lie at base or above. -/
def rowS (w : World) (base : Nat) (e : TypeId) : Nat → Prop := fun k => base ≤ k ∧ ∃ cs, Blk w k e cs
theorem own_grown {w w' : World} {base : Nat} {e : TypeId} {size : Nat} {v : Value} {n : Nat} {xs : List Value} (h : w.ownsRow base e size v n xs) (hg : w.grownBy w' v.ownBlock) : Mod (rowS w base e) w w' := by
  refine Mod.of_grown hg fun k hk e' => ?_
  rcases h.2 with ⟨hv, _⟩ | ⟨g, cap, cur, hv, hbg, hgb, _⟩
  · rw [hv] at e'; simp [Value.ownBlock] at e'
  · rw [hv] at e'; simp [Value.ownBlock] at e'; subst e'; exact ⟨hbg, cur, hgb⟩
theorem tx_info : ∃ i, Tryd.prog.info? 9 = some i ∧ i.zero = some (.string ⟨#[]⟩) ∧ i.size = 1 ∧ i.bytes = 16 := by
  have h : (Tryd.prog.info? 9).map (fun i => (i.zero, i.size, i.bytes)) = some (some (.string ⟨#[]⟩), 1, 16) := by kernel_rfl
  obtain ⟨i, hi, h⟩ := Option.map_eq_some_iff.1 h
  simp only [Prod.mk.injEq] at h
  exact ⟨i, hi, h.1, h.2.1, h.2.2⟩
section
variable {a : Act} {o : Oper} {w w' : World}
theorem y_fld {x : Operand} {k b : Nat} (hk : k < 2) (ho : o.op = .fieldAddr 35 x k) (hx : a.eval x = .pointer (some ⟨b, 0, none⟩)) : (execOp a.eval o).run Tryd.prog w = .ok (.value (.pointer (some ⟨b, k, none⟩))) w := by
  generalize a.eval = ev at hx
  obtain rfl | rfl : k = 0 ∨ k = 1 := by omega
  · unfold execOp
    simp only [ho, hx]
    go_simp
  · unfold execOp
    simp only [ho, hx]
    go_simp
theorem y_loadS {x : Operand} {p : Addr} {v : ByteArray} (ho : o.op = .load 9 x) (hx : a.eval x = .pointer (some p)) (hc : w.cell? p = some (.string v)) : (execOp a.eval o).run Tryd.prog w = .ok (.value (.string v)) w := by
  generalize a.eval = ev at hx
  unfold execOp
  simp only [ho, hx]
  go_simp
theorem y_loadN {x : Operand} {p : Addr} {v : Int} (ho : o.op = .load 2 x) (hx : a.eval x = .pointer (some p)) (hc : w.cell? p = some (.int .i64 v)) : (execOp a.eval o).run Tryd.prog w = .ok (.value (.int .i64 v)) w := by
  generalize a.eval = ev at hx
  unfold execOp
  simp only [ho, hx]
  go_simp
theorem op_format {K : Act → World → Prop} {Q : Exit → Act → World → Prop} {x : Operand} {t t' : TypeId} {u : Value} {R : Ending → World → Prop} (ho : o.op = .call { callee := .value (.func 11), args := #[x, .const (.int .i64 10)], argTypes := #[t, t'] }) (hx : a.eval x = u)
    (hC : Calls Tryd.prog 11 #[u, .int .i64 10] w R) (hR : ∀ e w', R e w' → ∃ u, e = .returned u ∧ K (a.put o.dst u) w') : Oper.wp Tryd.prog o a w K Q := by
  have h : (execOp a.eval o).run Tryd.prog w = .ok (.enter 11 #[u, .int .i64 10]) w := by
    have hf : a.eval (.func 11) = .func (.func 11) #[] #[] := rfl
    have hk : a.eval (.const (.int .i64 10)) = .int .i64 10 := rfl
    generalize a.eval = ev at hx hf hk
    unfold execOp
    simp only [ho]
    go_simp
  unfold Oper.wp
  rw [h, Oper.upon_enter]
  refine hC.mono fun e w' hr => ?_
  obtain ⟨u, rfl, hk⟩ := hR e w' hr
  exact hk
theorem y_two {p q : Operand} {s t : ByteArray} (ho : o.op = .buildSlice 32 2 #[(0, p), (1, q)]) (hp : a.eval p = .string s) (hq : a.eval q = .string t) : (execOp a.eval o).run Tryd.prog w = .ok (.value (.slice (some ⟨w.heap.size, 0, none⟩) 2 2)) (w.alloc (.cells #[.string s, .string t] 9)) := by
  generalize a.eval = ev at hp hq
  unfold execOp
  simp only [ho, hp, hq]
  go_simp
theorem op_append {K : Act → World → Prop} {Q : Exit → Act → World → Prop} {s q : Operand} (ho : o.op = .call { callee := .builtin .append, args := #[s, q], argTypes := #[32, 32] }) {base n b : Nat} {v : Value} {xs : List Value} {x y : ByteArray}
    (hs : a.eval s = v) (hq : a.eval q = .slice (some ⟨b, 0, none⟩) 2 2) (hown : w.ownsRow base 9 1 v n xs) (hb : Blk w b 9 #[.string x, .string y]) (hn : n ≤ 2097152) (hbase : base ≤ w.heap.size)
    (h : ∀ v' w', w'.ownsRow base 9 1 v' (n + 2) (xs ++ [.string x, .string y]) → Mod (rowS w base 9) w w' → K (a.put o.dst v') w') : Oper.wp Tryd.prog o a w K Q := by
  obtain ⟨i0, hi, hz0, hz1, hz2⟩ := tx_info
  obtain ⟨v', w', hrun, h2, h3, h4, _⟩ := run_append (P := Tryd.prog) w base 32 o.type 9 i0 (.string ⟨#[]⟩) 1 16 Tryd.underlying32 hi hz0 hz1 hz2 rfl (by decide) v n xs hown (some ⟨b, 0, none⟩) 2 2 [.string x, .string y] (Rds.of_blk hb rfl (fun j u hu => by rw [Nat.zero_add, ← hu]; simp)) (by simp [Value.oneCell']) (by simp only [maxLen]; omega) (by omega) hbase
  unfold Oper.wp execOp
  simp only [ho, resolve, invoke, builtin, Sem.run_bind, Sem.run_pure, Result.andThen_ok, List.map_toArray, List.map_cons, List.map_nil, hs, hq, hrun]
  exact h v' w' h2 (own_grown hown h3)
end
def strs (ps : List Bytes) : List Value := ps.map fun x => .string (sv x)
theorem strs_append (a b : List Bytes) : strs (a ++ b) = strs a ++ strs b := by simp [strs]
/-- What stands at the head of a word's round. -/
def PI (w : World) (r : Rule) (v4 v13 : Value) (wr : World) : Prop := ∃ (k : Nat) (A : Option Addr) (n c : Nat), k ≤ 7 ∧ v13 = .int .i64 (k : Int) ∧ v4 = .slice A n c ∧ (n = 0 → A = none ∧ c = 0) ∧ n = (flat ((r.all.take k).filter nz)).length ∧
  wr.ownsRow w.heap.size 9 1 (.slice A n c) n (strs (flat ((r.all.take k).filter nz))) ∧ Mod no w wr
theorem all_len (r : Rule) : r.all.length = 7 := rfl
theorem flat_len (ps : List (Bytes × Int)) : (flat ps).length = 2 * ps.length := by
  induction ps with
  | nil => rfl
  | cons p t ih => show (p.1 :: Lib.itoa p.2 :: flat t).length = _; simp [ih]; omega
theorem take_next {r : Rule} {k : Nat} {p : Bytes × Int} (hp : r.all[k]? = some p) : r.all.take (k + 1) = r.all.take k ++ [p] := by
  rw [List.take_add_one, hp]; rfl
theorem flat_append (a b : List (Bytes × Int)) : flat (a ++ b) = flat a ++ flat b := by simp [flat]
theorem all_num {r : Rule} (hi : r.In) (hr : r.right) : ∀ p ∈ r.all, NumOK p := by
  obtain ⟨g1, g2, g3, g4, g5, g6, g7⟩ := hr
  intro p hp
  simp only [Rule.all, List.mem_cons, List.not_mem_nil, or_false] at hp
  have i1 := hi.l.2; have i2 := hi.h.2; have i3 := hi.d.2; have i4 := hi.w.2; have i5 := hi.m.2; have i6 := hi.y.2; have i7 := hi.x.2
  rcases hp with rfl | rfl | rfl | rfl | rfl | rfl | rfl <;> exact ⟨by assumption, by simp only; omega⟩
theorem wc_at {r : Rule} {k : Nat} {p : Bytes × Int} (hp : r.all[k]? = some p) : (Wc r)[k * 2]? = some (.string (sv p.1)) ∧ (Wc r)[k * 2 + 1]? = some (.int .i64 p.2) := by
  have hk : k < 7 := (List.getElem?_eq_some_iff.1 hp).1
  obtain rfl | rfl | rfl | rfl | rfl | rfl | rfl : k = 0 ∨ k = 1 ∨ k = 2 ∨ k = 3 ∨ k = 4 ∨ k = 5 ∨ k = 6 := by omega
  all_goals (simp [Rule.all] at hp; subst hp; exact ⟨rfl, rfl⟩)
theorem flat_join_len : ∀ (ps : List (Bytes × Int)), (∀ p ∈ ps, NumOK p ∧ p.1.length ≤ 6) → (Lib.joinTail [32] (flat ps)).length ≤ 28 * ps.length
  | [], _ => by simp [flat, Lib.joinTail]
  | p :: ps, h => by
    have hp := h p (by simp)
    have ih := flat_join_len ps fun q hq => h q (by simp [hq])
    have hi := itoa_len hp.1.1 hp.1.2
    have e : Lib.joinTail [32] (flat (p :: ps)) = (32 :: p.1) ++ ((32 :: Lib.itoa p.2) ++ Lib.joinTail [32] (flat ps)) := by
      show Lib.joinTail [32] (p.1 :: Lib.itoa p.2 :: flat ps) = _
      simp [Lib.joinTail]
    rw [e]
    simp only [List.length_append, List.length_cons]
    omega
theorem join_len {r : Rule} (hN : ∀ p ∈ r.all, NumOK p) : (Lib.join r.pieces [32]).length ≤ 1000 := by
  have hw : ∀ p ∈ r.all, p.1.length ≤ 6 := by
    intro p hp
    simp only [Rule.all, List.mem_cons, List.not_mem_nil, or_false] at hp
    rcases hp with rfl | rfl | rfl | rfl | rfl | rfl | rfl <;> simp [wLast, wHours, wDays, wWeeks, wMonths, wYears, wWithin]
  have h1 := flat_join_len r.pairs fun p hp => ⟨hN p (List.mem_filter.1 hp).1, hw p (List.mem_filter.1 hp).1⟩
  have h2 : r.pairs.length ≤ 7 := by have h1 := List.length_filter_le nz r.all; rw [all_len] at h1; exact h1
  unfold Rule.pieces
  cases hf : flat r.pairs with
  | nil => simp [Lib.join_nil]
  | cons x t =>
    rw [Lib.join_cons]
    rw [hf] at h1
    have e : (Lib.joinTail [32] (x :: t)).length = 1 + x.length + (Lib.joinTail [32] t).length := by simp [Lib.joinTail]; omega
    rw [List.length_append]
    omega
theorem wc_len (r : Rule) : (Wc r).length = 14 := rfl
set_option maxRecDepth 100000 in
set_option maxHeartbeats 4000000 in
theorem print_p {w : World} {r : Rule} (hi : r.In) (hT : TW w) : Calls Tryd.prog 5 #[Rv r.l r.h r.d r.w r.m r.y r.x] w fun e w' => Mod no w w' ∧ ((r.right ∧ e = .returned (.tuple #[.string (sv r.text), .int .i64 0])) ∨ (¬ r.right ∧ e = .returned (.tuple #[.string (sv []), .int .i64 280]))) := by
  by_cases hr : r.right
  case neg =>
    have hd : decide (r.right) = false := decide_eq_false hr
    have HR := Lib.hid hr
    have HC := Lib.hid (fun (W : World) => (right_p (w := W) r.l r.h r.d r.w r.m r.y r.x).mono (fun e w' (h : _ ∧ _) => show e = .returned (.bool false) ∧ Mod no W w' from ⟨by rw [h.1]; exact congrArg _ (congrArg _ hd), h.2⟩))
    clear hr hd hi hT
    go_enter Tryd.func5, Tryd.ntmps5
    go_wp2_with (go_at_call 9; refine (HC.out _).mono ?_; rintro e w2 ⟨rfl, m2⟩)
    go_ret2
    exact ⟨((Mod.refl no w).alloc _).and_then m2, .inr ⟨HR.out, rfl⟩⟩
  have hd : decide (r.right) = true := decide_eq_true hr
  have HR := Lib.hid hr
  have HN := Lib.hid (all_num hi hr)
  have HC := Lib.hid (fun (W : World) => (right_p (w := W) r.l r.h r.d r.w r.m r.y r.x).mono (fun e w' (h : _ ∧ _) => show e = .returned (.bool true) ∧ Mod no W w' from ⟨by rw [h.1]; exact congrArg _ (congrArg _ hd), h.2⟩))
  have HW := Lib.hid (fun (W : World) => words_p (w := W) r hi)
  have HT := Lib.hid (fun (W : World) (m : Mod no w W) => hT.mod m)
  have hB0 := Blk.new w 24 #[.int .i16 r.l, .int .i16 r.h, .int .i16 r.d, .int .i16 r.w, .int .i16 r.m, .int .i16 r.y, .int .i64 r.x]
  have HB := Lib.hid hB0
  clear hr hd hi hT hB0
  go_enter Tryd.func5, Tryd.ntmps5
  go_wp2_with (first
    | (go_at_call 9; refine (HC.out _).mono ?_; rintro e w2 ⟨rfl, m2⟩; have M2 := Lib.hid m2; have B2 := Lib.hid (HB.out.mod m2 (fun c => c)); clear m2; have k0 := B2.out.cell 0; have k1 := B2.out.cell 1; have k2 := B2.out.cell 2; have k3 := B2.out.cell 3; have k4 := B2.out.cell 4; have k5 := B2.out.cell 5; have k6 := B2.out.cell 6)
    | (go_at_call 10; refine (HW.out _).mono ?_; rintro e w3 ⟨g, rfl, hg, hb, m3⟩; have M3 := Lib.hid (show Mod no w w3 from ((Mod.refl no w).alloc _).and_then (M2.out.and_then m3)); have HG := Lib.hid (show w.heap.size ≤ g from Nat.le_trans (Nat.le_trans (by simp) M2.out.size) hg); have B3 := Lib.hid hb; clear hg hb m3 M2 B2 k0 k1 k2 k3 k4 k5 k6))
  go_loopw [4, 13] (fun (v4 v13 : Value) (wr : World) => PI w r v4 v13 wr ∧ Blk wr g 35 (Wc r).toArray) (fun _ v13 _ => 7 - (intOf v13).toNat)
  case atStart => exact ⟨⟨0, none, 0, 0, Nat.zero_le _, rfl, rfl, fun _ => ⟨rfl, rfl⟩, rfl, World.ownsRow_nil _ _ _ _, M3.out⟩, B3.out⟩
  case round =>
    obtain ⟨⟨k, A, n, c, hk, rfl, rfl, h0, hn, hown, hM⟩, hb⟩ := hrel
    have HM := Lib.hid hM
    have HO := Lib.hid hown
    have H0 := Lib.hid h0
    have HN1 := Lib.hid hn
    clear hM hown h0 hn
    by_cases hk7 : k < 7
    · obtain ⟨p, hp⟩ : ∃ p, r.all[k]? = some p := ⟨_, List.getElem?_eq_getElem (by rw [all_len]; exact hk7)⟩
      have hkL : (k : Int) < 7 := by omega
      have hw64 : wrap64 ((k : Int) + 1) = (k : Int) + 1 := IntWalk.wrap64_in _ (by omega)
      have HP := Lib.hid (HN.out p (List.mem_of_getElem? hp))
      have c0 : wr.cell? ⟨g, k * 2, none⟩ = some (.string (sv p.1)) := by rw [hb.cell, List.getElem?_toArray]; exact (wc_at hp).1
      have c1 : wr.cell? ⟨g, k * 2 + 1, none⟩ = some (.int .i64 p.2) := by rw [hb.cell, List.getElem?_toArray]; exact (wc_at hp).2
      have B := Lib.hid hb
      have HT1 := Lib.hid (take_next hp)
      have hgl := hb.lt
      have HK := Lib.hid hk7
      clear hb hp hk7 hk
      have HN2 := Lib.hid (show n ≤ 14 by
        rw [HN1.out, flat_len]
        have h1 := List.length_filter_le nz (r.all.take k)
        rw [List.length_take, all_len] at h1
        omega)
      by_cases hz : p.2 = 0
      · have HZ := Lib.hid (show flat ((r.all.take (k + 1)).filter nz) = flat ((r.all.take k).filter nz) by rw [HT1.out, List.filter_append, flat_append]; simp [nz, hz, flat])
        go_wp2_with fail
        go_round
        case rel => exact ⟨⟨k + 1, A, n, c, by have := HK.out; omega, by go_num, rfl, H0.out, by rw [HZ.out]; exact HN1.out, by rw [HZ.out]; exact own_mod HO.out ((Mod.refl no wr).alloc _) (fun _ _ c => c), HM.out.alloc _⟩, B.out.alloc _⟩
        case measure => have := HK.out; simp only [intOf]; omega
      · have HZ := Lib.hid (show flat ((r.all.take (k + 1)).filter nz) = flat ((r.all.take k).filter nz) ++ [p.1, Lib.itoa p.2] by rw [HT1.out, List.filter_append, flat_append]; simp [nz, hz, flat])
        go_wp2_with fail
        refine wp_region_held_drew (S := fun w' => Blk w' wr.heap.size 35 #[.string (sv p.1), .int .i64 p.2] ∧ Mod no w w') (by kernel_rfl) ⟨(Blk.new wr _ _).drew, (HM.out.alloc _).drew⟩ (fun hHeld => ?_)
        refine takeD (i := 0) (d := some 20) (v := (.slice A n c)) rfl (by kernel_rfl) (by kernel_rfl) (by kernel_rfl) rfl (fun _ _ _ h => h) (Or.inl ⟨by kernel_rfl, fun w9 hw => y_move rfl rfl⟩) hHeld ?_
        simp only [Act.put, List.setIfInBounds_toArray, List.set_cons_zero, List.set_cons_succ]
        refine takeD (i := 1) (d := some 21) (v := (.pointer (some ⟨wr.heap.size, 0, none⟩))) rfl (by kernel_rfl) (by kernel_rfl) (by kernel_rfl) rfl (fun _ _ _ h => h) (Or.inl ⟨by kernel_rfl, fun w9 hw => y_fld (by decide) rfl rfl⟩) hHeld ?_
        simp only [Act.put, List.setIfInBounds_toArray, List.set_cons_zero, List.set_cons_succ]
        refine takeD (i := 2) (d := some 22) (v := (.string (sv p.1))) rfl (by kernel_rfl) (by kernel_rfl) (by kernel_rfl) rfl (fun _ _ _ h => h) (Or.inl ⟨by kernel_rfl, fun w9 hw => y_loadS rfl rfl (hw.1.cell 0)⟩) hHeld ?_
        simp only [Act.put, List.setIfInBounds_toArray, List.set_cons_zero, List.set_cons_succ]
        refine takeD (i := 3) (d := some 23) (v := (.pointer (some ⟨wr.heap.size, 1, none⟩))) rfl (by kernel_rfl) (by kernel_rfl) (by kernel_rfl) rfl (fun _ _ _ h => h) (Or.inl ⟨by kernel_rfl, fun w9 hw => y_fld (by decide) rfl rfl⟩) hHeld ?_
        simp only [Act.put, List.setIfInBounds_toArray, List.set_cons_zero, List.set_cons_succ]
        refine takeD (i := 4) (d := some 24) (v := (.int .i64 p.2)) rfl (by kernel_rfl) (by kernel_rfl) (by kernel_rfl) rfl (fun _ _ _ h => h) (Or.inl ⟨by kernel_rfl, fun w9 hw => y_loadN rfl rfl (hw.1.cell 1)⟩) hHeld ?_
        simp only [Act.put, List.setIfInBounds_toArray, List.set_cons_zero, List.set_cons_succ]
        refine readyD (i := 5) (d := some 25) rfl (by kernel_rfl) rfl (by kernel_rfl) fun K hK => ?_
        refine op_format rfl rfl (format_m (by have := HP.out.1; omega) HP.out.2 (HT.out _ hHeld.2)) ?_
        rintro e w4 ⟨rfl, m4⟩
        refine ⟨_, rfl, hK _ _ ⟨hHeld.1.mod m4 (fun c => c), hHeld.2.and_then m4⟩ fun hHeld4 => ?_⟩
        have HO4 := Lib.hid (own_mod HO.out (((Mod.refl no wr).alloc _).drew.and_then m4) (fun _ _ c => c))
        have HG4 := Lib.hid (B.out.mod (((Mod.refl no wr).alloc _).drew.and_then m4) (fun c => c))
        clear hK K hHeld m4 HO
        simp only [Act.put, List.setIfInBounds_toArray, List.set_cons_zero, List.set_cons_succ]
        refine readyD (i := 6) (d := some 26) rfl (by kernel_rfl) rfl (by kernel_rfl) fun K hK => ?_
        refine op_yield (y_two rfl rfl rfl) ?_
        refine hK _ _ ⟨hHeld4.1.alloc _, hHeld4.2.alloc _⟩ fun hHeld5 => ?_
        have HO5 := Lib.hid (own_mod HO4.out ((Mod.refl no w4).alloc (.cells #[.string (sv p.1), .string (sv (Lib.itoa p.2))] 9)) (fun _ _ c => c))
        have HG5 := Lib.hid (HG4.out.alloc (.cells #[.string (sv p.1), .string (sv (Lib.itoa p.2))] 9))
        have HB5 := Lib.hid (Blk.new w4 9 #[.string (sv p.1), .string (sv (Lib.itoa p.2))])
        clear hK K hHeld4 HO4 HG4
        simp only [Act.put, List.setIfInBounds_toArray, List.set_cons_zero, List.set_cons_succ]
        generalize hw5 : w4.alloc (.cells #[.string (sv p.1), .string (sv (Lib.itoa p.2))] 9) = w5 at *
        refine readyD (i := 7) (d := some 27) rfl (by kernel_rfl) rfl (by kernel_rfl) fun K hK => ?_
        refine op_append rfl rfl rfl HO5.out HB5.out (by have := HN2.out; omega) hHeld5.2.size ?_
        intro v6 w6 hown6 m6
        have hS6 : Blk w6 wr.heap.size 35 #[.string (sv p.1), .int .i64 p.2] ∧ Mod no w w6 := ⟨hHeld5.1.mod m6 (fun h => by obtain ⟨_, cs, hcs⟩ := h; exact absurd (hHeld5.1.same hcs).1 (by decide)), hHeld5.2.trans m6 (fun k hk h => by have := h.1; omega)⟩
        refine hK _ _ hS6 fun hHeld6 => ?_
        obtain ⟨A6, c6, rfl⟩ := own_form hown6
        have HG6 := Lib.hid (HG5.out.mod m6 (fun h => by obtain ⟨_, cs, hcs⟩ := h; exact absurd (HG5.out.same hcs).1 (by decide)))
        have HO6 := Lib.hid hown6
        clear hK K m6 hHeld5 HO5 HG5 HB5 hS6 hown6
        simp only [Act.put, List.setIfInBounds_toArray, List.set_cons_zero, List.set_cons_succ]
        refine readyD (i := 8) (d := some 4) rfl (by kernel_rfl) rfl (by kernel_rfl) fun K hK => ?_
        refine op_yield (y_assign rfl rfl) ?_
        refine hK _ _ hHeld6 (fun hHeld7 => ?_)
        clear hK K hHeld6
        simp only [Act.put, List.setIfInBounds_toArray, List.set_cons_zero, List.set_cons_succ]
        refine wpAnyH_done (by kernel_rfl) ?_ _
        go_wp2_with fail
        go_round
        case rel => exact ⟨⟨k + 1, A6, n + 2, c6, by have := HK.out; omega, by go_num, rfl, fun h => by omega, by rw [HZ.out, List.length_append, ← HN1.out]; rfl, by rw [HZ.out, strs_append]; exact HO6.out, hHeld7.2⟩, HG6.out⟩
        case measure => have := HK.out; simp only [intOf]; omega
    · obtain rfl : k = 7 := by omega
      have hkL : ¬ ((7 : Nat) : Int) < 7 := by decide
      have hpieces : flat ((r.all.take 7).filter nz) = r.pieces := rfl
      rw [hpieces] at HO HN1
      by_cases hp : r.pieces = []
      · obtain ⟨rfl, rfl⟩ := H0.out (by rw [HN1.out, hp]; rfl)
        have heq := fun (W : World) => Lib.run_eql_slice_nil (P := Tryd.prog) W 32 9 none n 0 0 0 Tryd.underlying32
        have HE := Lib.hid (show r.text = noneB by unfold Rule.text; rw [if_pos hp])
        clear hp
        go_wp2_with fail
        go_ret2
        exact ⟨HM.out, .inl ⟨HR.out, by rw [HE.out]; rfl⟩⟩
      · have hown := HO.out
        have hlen := HN1.out
        rcases hown.2 with ⟨hv, h0⟩ | ⟨q, cap, cur, hv, hq, hqb, h1, h2, h3, h4⟩
        · exact absurd (List.eq_nil_of_length_eq_zero (hlen.symm.trans h0)) hp
        injection hv with hA _ hc
        subst hA hc
        have heq := fun (W : World) => Lib.run_eql_slice_nil (P := Tryd.prog) W 32 9 (some ⟨q, 0, none⟩) n c 0 0 Tryd.underlying32
        have HE := Lib.hid (show r.text = Lib.join r.pieces [32] by unfold Rule.text; rw [if_neg hp])
        have hxl : (r.pieces.map sv).length = n := by rw [List.length_map]; exact hlen.symm
        have hmm : (r.pieces.map sv).map (·.data.toList) = r.pieces := by
          rw [List.map_map]
          conv => rhs; rw [← List.map_id r.pieces]
          exact List.map_congr_left fun x _ => by simp [sv]
        have hcell : ∀ (j : Nat) x, (r.pieces.map sv)[j]? = some x → wr.cell? ⟨q, 0 + j, none⟩ = some (.string x) := by
          intro j x hx
          have hj : (strs r.pieces)[j]? = some (.string x) := by
            unfold strs
            rw [List.getElem?_map] at hx ⊢
            obtain ⟨y, hy, rfl⟩ := Option.map_eq_some_iff.1 hx
            rw [hy]; rfl
          have hb2 : Blk wr q 9 cur := hqb
          rw [Nat.zero_add, hb2.cell]
          rw [← h4, List.getElem?_take] at hj
          split at hj
          · rw [← Array.getElem?_toList]; exact hj
          · cases hj
        have hjl : (Lib.join r.pieces [32]).length ≤ 1000 := join_len (HN.out)
        have HJ := Lib.hid (strings_Join q 0 c (r.pieces.map sv) (sv [32]) wr hcell (Blk.lt (show Blk wr q 9 cur from hqb)) (by rw [hxl, hlen, show r.pieces = flat r.pairs from rfl, flat_len]; have h1 := List.length_filter_le nz r.all; rw [all_len] at h1; have : r.pairs.length ≤ 7 := h1; omega) (by rw [hxl]; exact h1) (by rw [hmm]; show (Lib.join r.pieces [32]).length ≤ _; omega))
        rw [hxl, hmm] at HJ
        clear hp hown hlen hq hqb h1 h2 h3 h4 hxl hmm hcell hjl
        go_wp2_with (go_at_call 12; refine HJ.out.mono ?_; rintro e w4 ⟨rfl, b4⟩; have M4 := Lib.hid (HM.out.and_then (Mod.of_new b4)); clear b4)
        go_ret2
        exact ⟨M4.out, .inl ⟨HR.out, by rw [HE.out]; rfl⟩⟩
end Go.Proofs.YtoncjoelkenjnaaDoor.KR
