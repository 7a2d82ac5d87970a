/- IndexExact: the texts SwA SwC SwD of this seat, one behind the other. -/
import Derived.Test.YtknbehjhaaidoaaM13
/- The law's own functions: below, among. -/
namespace Go.Proofs.Ytknbehjhaaidoaa.IX
open Go.RowKit Go.Shelf Mem HD TB
set_option linter.unusedVariables false
set_option linter.unusedSimpArgs false
/-- A row of keys that may lie anywhere. -/
def KAt (w : World) (v : Value) (l : List Key) : Prop := ∃ A c, v = .slice A l.length c ∧ ∀ (i : Nat) (k : Key), l[i]? = some k → ∃ b o, A = some ⟨b, o, none⟩ ∧ w.rangeAt b (o + i * 32) k.L
theorem KAt.mod {S : Nat → Prop} {w w' : World} {v : Value} {l : List Key} (h : KAt w v l) (m : Mod S w w') (hs : ∀ b, v.ownBlock = some b → ¬ S b) : KAt w' v l := by
  obtain ⟨A, c, rfl, hr⟩ := h
  refine ⟨A, c, rfl, fun i k hk => ?_⟩
  obtain ⟨b, o, rfl, h1⟩ := hr i k hk
  exact ⟨b, o, rfl, range_mod h1 m (hs b rfl)⟩
section
variable {a : Act} {o : Oper} {w : World}
theorem y_ixk {x y : Operand} {b p : Nat} (ho : o.op = .indexAddr 39 x y) (hx : a.eval x = .pointer (some ⟨b, 0, none⟩)) (hy : a.eval y = .int .i64 (p : Int)) (hp : p < 32) : (execOp a.eval o).run Try.prog w = .ok (.value (.pointer (some ⟨b, p, none⟩))) w := by
  have hp0 : (0 : Int) ≤ (p : Int) := by omega
  have hpi : (p : Int) < (32 : Int) := by omega
  generalize a.eval = ev at hx hy
  unfold execOp
  simp only [ho, hx, hy]
  go_simp
theorem y_ixs {x y : Operand} {b off n c p : Nat} (ho : o.op = .indexAddr 45 x y) (hx : a.eval x = .slice (some ⟨b, off, none⟩) n c) (hy : a.eval y = .int .i64 (p : Int)) (hp : p < n) : (execOp a.eval o).run Try.prog w = .ok (.value (.pointer (some ⟨b, off + p * 32, none⟩))) w := by
  have hp0 : (0 : Int) ≤ (p : Int) := by omega
  have hpi : (p : Int) < (n : Int) := by omega
  have ha : (⟨b, off, none⟩ : Addr).add (p * 32) = ⟨b, off + p * 32, none⟩ := add_plain _ _ _
  generalize a.eval = ev at hx hy
  unfold execOp
  simp only [ho, hx, hy]
  go_simp
theorem y_neq8 {x y : Operand} {m n : Int} {d : Bool} (hd : decide (m = n) = d) (ho : o.op = .binOp .neq 5 x y 5) (hx : a.eval x = .int .u8 m) (hy : a.eval y = .int .u8 n) : (execOp a.eval o).run Try.prog w = .ok (.value (.bool (!d))) w := by
  subst hd
  generalize a.eval = ev at hx hy
  unfold execOp
  simp only [ho, hx, hy]
  go_simp
  by_cases h : m = n <;> simp [h]
theorem y_lss8 {x y : Operand} {m n : Int} {d : Bool} (hd : decide (m < n) = d) (ho : o.op = .binOp .lss 5 x y 5) (hx : a.eval x = .int .u8 m) (hy : a.eval y = .int .u8 n) : (execOp a.eval o).run Try.prog w = .ok (.value (.bool d)) w := by
  subst hd
  generalize a.eval = ev at hx hy
  unfold execOp
  simp only [ho, hx, hy]
  go_simp
theorem y_eqKd {x y : Operand} {k k' : Key} {d : Bool} (hd : decide (k = k') = d) (ho : o.op = .binOp .eql 39 x y 39) (hx : a.eval x = .agg k.L.toArray) (hy : a.eval y = .agg k'.L.toArray) : (execOp a.eval o).run Try.prog w = .ok (.value (.bool d)) w := by
  subst hd; exact y_eqK ho hx hy
end
/-- One byte further. -/
theorem cmp_step {a b : List UInt8} {i : Nat} {x y : UInt8} (hx : a[i]? = some x) (hy : b[i]? = some y) : Lib.compareBytes (a.drop i) (b.drop i) = if x < y then -1 else if y < x then 1 else Lib.compareBytes (a.drop (i + 1)) (b.drop (i + 1)) := by
  obtain ⟨h1, h2⟩ := List.getElem?_eq_some_iff.1 hx
  obtain ⟨h3, h4⟩ := List.getElem?_eq_some_iff.1 hy
  rw [List.drop_eq_getElem_cons h1, List.drop_eq_getElem_cons h3, h2, h4, Lib.compareBytes]
theorem key_cell {w : World} {b o i : Nat} {k : Key} {x : UInt8} (h : w.rangeAt b o k.L) (hx : k.1[i]? = some x) : w.cell? ⟨b, o + i, none⟩ = some (.int .u8 (x.toNat : Int)) := h i _ (by unfold Key.L kOf; rw [List.getElem?_map, hx]; rfl)
set_option maxRecDepth 100000 in
theorem below_any (a b : Key) (w : World) : Calls Try.prog 23 #[.agg a.L.toArray, .agg b.L.toArray] w fun e w' => e = .returned (.bool (decide (klt a b))) ∧ Mod no w w' := by
  have hm : Mod no w ((w.alloc (.cells a.L.toArray 39)).alloc (.cells b.L.toArray 39)) := ((Mod.refl no w).alloc _).alloc _
  have h1 : ((w.alloc (.cells a.L.toArray 39)).alloc (.cells b.L.toArray 39)).rangeAt w.heap.size 0 a.L := blk_range ((Blk.new w 39 a.L.toArray).alloc _)
  have h2 : ((w.alloc (.cells a.L.toArray 39)).alloc (.cells b.L.toArray 39)).rangeAt (w.heap.size + 1) 0 b.L := blk_range (Blk.new_at (w.alloc (.cells a.L.toArray 39)) 39 b.L.toArray (by simp))
  have HA := Lib.hid (And.intro hm (And.intro h1 h2))
  clear hm h1 h2
  go_enter Try.func23, Try.ntmps23
  go_upto_region 2 with fail
  obtain ⟨w2, hw2⟩ : ∃ w2, w2 = (w.alloc (.cells a.L.toArray 39)).alloc (.cells b.L.toArray 39) := ⟨_, rfl⟩
  rw [← hw2] at HA ⊢
  clear hw2
  obtain ⟨h0, hh0⟩ : ∃ h0, h0 = w.heap.size := ⟨_, rfl⟩
  rw [← hh0] at HA ⊢
  clear hh0
  go_loopw [5] (fun v w' => ∃ i : Nat, i ≤ 32 ∧ v = .int .i64 (i : Int) ∧ Mod no w2 w' ∧ Lib.compareBytes a.1 b.1 = Lib.compareBytes (a.1.drop i) (b.1.drop i)) (fun v _ => 32 - (intOf v).toNat)
  case atStart => exact ⟨0, by omega, rfl, Mod.refl _ _, rfl⟩
  case round =>
    obtain ⟨i, hi, rfl, hm, hc⟩ := hrel
    have HI := Lib.hid (And.intro hm hc)
    clear hm hc
    by_cases hlt : i < 32
    · have g1 : (i : Int) < 32 := by omega
      obtain ⟨x, hx⟩ : ∃ x, a.1[i]? = some x := ⟨_, List.getElem?_eq_getElem (by rw [a.2]; exact hlt)⟩
      obtain ⟨y, hy⟩ : ∃ y, b.1[i]? = some y := ⟨_, List.getElem?_eq_getElem (by rw [b.2]; exact hlt)⟩
      have c1 : wr.cell? ⟨h0, i, none⟩ = some (.int .u8 (x.toNat : Int)) := by have := key_cell (range_mod HA.out.2.1 HI.out.1 (fun c => c)) hx; rw [Nat.zero_add] at this; exact this
      have c2 : wr.cell? ⟨h0 + 1, i, none⟩ = some (.int .u8 (y.toNat : Int)) := by have := key_cell (range_mod HA.out.2.2 HI.out.1 (fun c => c)) hy; rw [Nat.zero_add] at this; exact this
      have hs := cmp_step hx hy
      have HC := Lib.hid (And.intro hlt (And.intro c1 (And.intro c2 hs)))
      clear hlt c1 c2 hs hx hy hi
      go_upto_region 4 with fail
      by_cases e : x = y
      · have d1 : decide ((x.toNat : Int) = (y.toNat : Int)) = true := decide_eq_true (by rw [e])
        refine wp_region_held_drew (S := fun w9 => w9 = wr.drew) (by kernel_rfl) rfl (fun hHeld => ?_)
        refine takeD (i := 0) (d := some 10) (v := (.int .i64 (i : Int))) rfl (by kernel_rfl) (by kernel_rfl) (by kernel_rfl) rfl (fun _ _ _ h => h) (Or.inl ⟨by kernel_rfl, fun w9 hw => y_move rfl rfl⟩) hHeld ?_
        simp only [Act.put, List.setIfInBounds_toArray, List.set_cons_zero, List.set_cons_succ]
        refine takeD (i := 1) (d := some 11) (v := (.pointer (some ⟨h0, i, none⟩))) rfl (by kernel_rfl) (by kernel_rfl) (by kernel_rfl) rfl (fun _ _ _ h => h) (Or.inl ⟨by kernel_rfl, fun w9 hw => y_ixk rfl rfl rfl HC.out.1⟩) hHeld ?_
        simp only [Act.put, List.setIfInBounds_toArray, List.set_cons_zero, List.set_cons_succ]
        refine takeD (i := 2) (d := some 12) (v := (.int .u8 (x.toNat : Int))) rfl (by kernel_rfl) (by kernel_rfl) (by kernel_rfl) rfl (fun _ _ _ h => h) (Or.inl ⟨by kernel_rfl, fun w9 hw => by rw [hw]; exact y_one rfl (by decide) rfl HC.out.2.1 rfl⟩) hHeld ?_
        simp only [Act.put, List.setIfInBounds_toArray, List.set_cons_zero, List.set_cons_succ]
        refine takeD (i := 3) (d := some 13) (v := (.int .i64 (i : Int))) rfl (by kernel_rfl) (by kernel_rfl) (by kernel_rfl) rfl (fun _ _ _ h => h) (Or.inl ⟨by kernel_rfl, fun w9 hw => y_move rfl rfl⟩) hHeld ?_
        simp only [Act.put, List.setIfInBounds_toArray, List.set_cons_zero, List.set_cons_succ]
        refine takeD (i := 4) (d := some 14) (v := (.pointer (some ⟨(h0 + 1), i, none⟩))) rfl (by kernel_rfl) (by kernel_rfl) (by kernel_rfl) rfl (fun _ _ _ h => h) (Or.inl ⟨by kernel_rfl, fun w9 hw => y_ixk rfl rfl rfl HC.out.1⟩) hHeld ?_
        simp only [Act.put, List.setIfInBounds_toArray, List.set_cons_zero, List.set_cons_succ]
        refine takeD (i := 5) (d := some 15) (v := (.int .u8 (y.toNat : Int))) rfl (by kernel_rfl) (by kernel_rfl) (by kernel_rfl) rfl (fun _ _ _ h => h) (Or.inl ⟨by kernel_rfl, fun w9 hw => by rw [hw]; exact y_one rfl (by decide) rfl HC.out.2.2.1 rfl⟩) hHeld ?_
        simp only [Act.put, List.setIfInBounds_toArray, List.set_cons_zero, List.set_cons_succ]
        refine takeD (i := 6) (d := some 16) (v := (.bool false)) rfl (by kernel_rfl) (by kernel_rfl) (by kernel_rfl) rfl (fun _ _ _ h => h) (Or.inl ⟨by kernel_rfl, fun w9 hw => y_neq8 d1 rfl rfl rfl⟩) hHeld ?_
        simp only [Act.put, List.setIfInBounds_toArray, List.set_cons_zero, List.set_cons_succ]
        refine wpAnyH_done (by kernel_rfl) ?_ _
        go_wp2_with fail
        exact ⟨⟨i + 1, HC.out.1, rfl, HI.out.1.drew, by rw [HI.out.2, HC.out.2.2.2, e, if_neg (UInt8.lt_irrefl y), if_neg (UInt8.lt_irrefl y)]⟩, by have := HC.out.1; show 32 - ((i : Int) + 1).toNat < 32 - ((i : Int)).toNat; omega⟩
      · have d1 : decide ((x.toNat : Int) = (y.toNat : Int)) = false := decide_eq_false (fun c => e (UInt8.toNat_inj.1 (by omega)))
        refine wp_region_held_drew (S := fun w9 => w9 = wr.drew) (by kernel_rfl) rfl (fun hHeld => ?_)
        refine takeD (i := 0) (d := some 10) (v := (.int .i64 (i : Int))) rfl (by kernel_rfl) (by kernel_rfl) (by kernel_rfl) rfl (fun _ _ _ h => h) (Or.inl ⟨by kernel_rfl, fun w9 hw => y_move rfl rfl⟩) hHeld ?_
        simp only [Act.put, List.setIfInBounds_toArray, List.set_cons_zero, List.set_cons_succ]
        refine takeD (i := 1) (d := some 11) (v := (.pointer (some ⟨h0, i, none⟩))) rfl (by kernel_rfl) (by kernel_rfl) (by kernel_rfl) rfl (fun _ _ _ h => h) (Or.inl ⟨by kernel_rfl, fun w9 hw => y_ixk rfl rfl rfl HC.out.1⟩) hHeld ?_
        simp only [Act.put, List.setIfInBounds_toArray, List.set_cons_zero, List.set_cons_succ]
        refine takeD (i := 2) (d := some 12) (v := (.int .u8 (x.toNat : Int))) rfl (by kernel_rfl) (by kernel_rfl) (by kernel_rfl) rfl (fun _ _ _ h => h) (Or.inl ⟨by kernel_rfl, fun w9 hw => by rw [hw]; exact y_one rfl (by decide) rfl HC.out.2.1 rfl⟩) hHeld ?_
        simp only [Act.put, List.setIfInBounds_toArray, List.set_cons_zero, List.set_cons_succ]
        refine takeD (i := 3) (d := some 13) (v := (.int .i64 (i : Int))) rfl (by kernel_rfl) (by kernel_rfl) (by kernel_rfl) rfl (fun _ _ _ h => h) (Or.inl ⟨by kernel_rfl, fun w9 hw => y_move rfl rfl⟩) hHeld ?_
        simp only [Act.put, List.setIfInBounds_toArray, List.set_cons_zero, List.set_cons_succ]
        refine takeD (i := 4) (d := some 14) (v := (.pointer (some ⟨(h0 + 1), i, none⟩))) rfl (by kernel_rfl) (by kernel_rfl) (by kernel_rfl) rfl (fun _ _ _ h => h) (Or.inl ⟨by kernel_rfl, fun w9 hw => y_ixk rfl rfl rfl HC.out.1⟩) hHeld ?_
        simp only [Act.put, List.setIfInBounds_toArray, List.set_cons_zero, List.set_cons_succ]
        refine takeD (i := 5) (d := some 15) (v := (.int .u8 (y.toNat : Int))) rfl (by kernel_rfl) (by kernel_rfl) (by kernel_rfl) rfl (fun _ _ _ h => h) (Or.inl ⟨by kernel_rfl, fun w9 hw => by rw [hw]; exact y_one rfl (by decide) rfl HC.out.2.2.1 rfl⟩) hHeld ?_
        simp only [Act.put, List.setIfInBounds_toArray, List.set_cons_zero, List.set_cons_succ]
        refine takeD (i := 6) (d := some 16) (v := (.bool true)) rfl (by kernel_rfl) (by kernel_rfl) (by kernel_rfl) rfl (fun _ _ _ h => h) (Or.inl ⟨by kernel_rfl, fun w9 hw => y_neq8 d1 rfl rfl rfl⟩) hHeld ?_
        simp only [Act.put, List.setIfInBounds_toArray, List.set_cons_zero, List.set_cons_succ]
        refine wpAnyH_done (by kernel_rfl) ?_ _
        go_upto_region 5 with fail
        obtain ⟨d, hd⟩ : ∃ d, d = decide ((x.toNat : Int) < (y.toNat : Int)) := ⟨_, rfl⟩
        have HD := Lib.hid hd
        clear hd
        refine wp_region_held_drew (S := fun w9 => w9 = wr.drew.drew) (by kernel_rfl) rfl (fun hHeld => ?_)
        refine takeD (i := 0) (d := some 17) (v := (.int .i64 (i : Int))) rfl (by kernel_rfl) (by kernel_rfl) (by kernel_rfl) rfl (fun _ _ _ h => h) (Or.inl ⟨by kernel_rfl, fun w9 hw => y_move rfl rfl⟩) hHeld ?_
        simp only [Act.put, List.setIfInBounds_toArray, List.set_cons_zero, List.set_cons_succ]
        refine takeD (i := 1) (d := some 18) (v := (.pointer (some ⟨h0, i, none⟩))) rfl (by kernel_rfl) (by kernel_rfl) (by kernel_rfl) rfl (fun _ _ _ h => h) (Or.inl ⟨by kernel_rfl, fun w9 hw => y_ixk rfl rfl rfl HC.out.1⟩) hHeld ?_
        simp only [Act.put, List.setIfInBounds_toArray, List.set_cons_zero, List.set_cons_succ]
        refine takeD (i := 2) (d := some 19) (v := (.int .u8 (x.toNat : Int))) rfl (by kernel_rfl) (by kernel_rfl) (by kernel_rfl) rfl (fun _ _ _ h => h) (Or.inl ⟨by kernel_rfl, fun w9 hw => by rw [hw]; exact y_one rfl (by decide) rfl HC.out.2.1 rfl⟩) hHeld ?_
        simp only [Act.put, List.setIfInBounds_toArray, List.set_cons_zero, List.set_cons_succ]
        refine takeD (i := 3) (d := some 20) (v := (.int .i64 (i : Int))) rfl (by kernel_rfl) (by kernel_rfl) (by kernel_rfl) rfl (fun _ _ _ h => h) (Or.inl ⟨by kernel_rfl, fun w9 hw => y_move rfl rfl⟩) hHeld ?_
        simp only [Act.put, List.setIfInBounds_toArray, List.set_cons_zero, List.set_cons_succ]
        refine takeD (i := 4) (d := some 21) (v := (.pointer (some ⟨(h0 + 1), i, none⟩))) rfl (by kernel_rfl) (by kernel_rfl) (by kernel_rfl) rfl (fun _ _ _ h => h) (Or.inl ⟨by kernel_rfl, fun w9 hw => y_ixk rfl rfl rfl HC.out.1⟩) hHeld ?_
        simp only [Act.put, List.setIfInBounds_toArray, List.set_cons_zero, List.set_cons_succ]
        refine takeD (i := 5) (d := some 22) (v := (.int .u8 (y.toNat : Int))) rfl (by kernel_rfl) (by kernel_rfl) (by kernel_rfl) rfl (fun _ _ _ h => h) (Or.inl ⟨by kernel_rfl, fun w9 hw => by rw [hw]; exact y_one rfl (by decide) rfl HC.out.2.2.1 rfl⟩) hHeld ?_
        simp only [Act.put, List.setIfInBounds_toArray, List.set_cons_zero, List.set_cons_succ]
        refine takeD (i := 6) (d := some 23) (v := (.bool d)) rfl (by kernel_rfl) (by kernel_rfl) (by kernel_rfl) rfl (fun _ _ _ h => h) (Or.inl ⟨by kernel_rfl, fun w9 hw => y_lss8 HD.out.symm rfl rfl rfl⟩) hHeld ?_
        simp only [Act.put, List.setIfInBounds_toArray, List.set_cons_zero, List.set_cons_succ]
        refine takeD (i := 7) (d := some 4) (v := (.bool d)) rfl (by kernel_rfl) (by kernel_rfl) (by kernel_rfl) rfl (fun _ _ _ h => h) (Or.inl ⟨by kernel_rfl, fun w9 hw => y_assign rfl rfl⟩) hHeld ?_
        simp only [Act.put, List.setIfInBounds_toArray, List.set_cons_zero, List.set_cons_succ]
        refine wpAnyH_done (by kernel_rfl) ?_ _
        go_wp2_with fail
        go_ret
        have hlt : x < y ↔ (x.toNat : Int) < (y.toNat : Int) := by rw [UInt8.lt_iff_toNat_lt]; omega
        have hgt : y < x ↔ (y.toNat : Int) < (x.toNat : Int) := by rw [UInt8.lt_iff_toNat_lt]; omega
        have hne : ¬ (x.toNat : Int) = (y.toNat : Int) := fun c => e (UInt8.toNat_inj.1 (by omega))
        refine ⟨?_, HA.out.1.and_then HI.out.1.drew.drew⟩
        show Ending.returned (.bool d) = _
        congr 2
        rw [HD.out, decide_eq_decide]
        show _ ↔ Lib.compareBytes a.1 b.1 < 0
        rw [HI.out.2, HC.out.2.2.2]
        by_cases c : x < y
        · rw [if_pos c]; exact ⟨fun _ => by decide, fun _ => hlt.1 c⟩
        · rw [if_neg c, if_pos (by rw [hgt]; have h3 : ¬ ((x.toNat : Int) < (y.toNat : Int)) := fun z => c (hlt.2 z); omega)]
          exact ⟨fun z => absurd (hlt.2 z) c, fun z => absurd z (by decide)⟩
    · obtain rfl : i = 32 := by omega
      have g1 : ¬ ((32 : Nat) : Int) < 32 := by omega
      clear hlt hi
      go_wp2_with fail
      go_ret
      refine ⟨?_, HA.out.1.and_then HI.out.1⟩
      show Ending.returned (.bool false) = _
      congr 2
      symm
      rw [decide_eq_false_iff_not]
      show ¬ Lib.compareBytes a.1 b.1 < 0
      rw [HI.out.2, List.drop_of_length_le (by rw [a.2]; decide), List.drop_of_length_le (by rw [b.2]; decide)]
      decide
set_option maxRecDepth 100000 in
theorem among_any {w : World} {v : Value} {l : List Key} (k : Key) (h : KAt w v l) (hl : l.length ≤ 2097152) : Calls Try.prog 25 #[.agg k.L.toArray, v] w fun e w' => e = .returned (.bool (decide (k ∈ l))) ∧ Mod no w w' := by
  have hm : Mod no w (w.alloc (.cells k.L.toArray 39)) := (Mod.refl no w).alloc _
  have h1 : (w.alloc (.cells k.L.toArray 39)).rangeAt w.heap.size 0 k.L := blk_range (Blk.new w 39 k.L.toArray)
  obtain ⟨A, c, rfl, hr⟩ := h.mod hm (fun _ _ c => c)
  have HA := Lib.hid (And.intro hm (And.intro h1 (And.intro hr hl)))
  clear hm h1 h hr hl
  go_enter Try.func25, Try.ntmps25
  go_upto_region 2 with fail
  obtain ⟨w2, hw2⟩ : ∃ w2, w2 = w.alloc (.cells k.L.toArray 39) := ⟨_, rfl⟩
  rw [← hw2] at HA ⊢
  clear hw2
  obtain ⟨h0, hh0⟩ : ∃ h0, h0 = w.heap.size := ⟨_, rfl⟩
  rw [← hh0] at HA ⊢
  clear hh0
  go_loopw [5] (fun v w' => ∃ i : Nat, i ≤ l.length ∧ v = .int .i64 (i : Int) ∧ Mod no w2 w' ∧ k ∉ l.take i) (fun v _ => l.length - (intOf v).toNat)
  case atStart => exact ⟨0, Nat.zero_le _, rfl, Mod.refl _ _, by simp⟩
  case round =>
    obtain ⟨i, hi, rfl, hm, hc⟩ := hrel
    have HI := Lib.hid (And.intro hm hc)
    clear hm hc
    by_cases hlt : i < l.length
    · have g1 : (i : Int) < (l.length : Int) := by omega
      obtain ⟨x, hx⟩ : ∃ x, l[i]? = some x := ⟨_, List.getElem?_eq_getElem hlt⟩
      obtain ⟨b, o, rfl, hr⟩ := HA.out.2.2.1 i x hx
      have HC := Lib.hid (And.intro hlt (And.intro (range_mod hr HI.out.1 (fun c => c)) (And.intro (range_mod HA.out.2.1 HI.out.1 (fun c => c)) hx)))
      have HM := Lib.hid (show l.length - ((i : Int) + 1).toNat < l.length - ((i : Int)).toNat by omega)
      have HW := Lib.hid (show wrap64 ((i : Int) + 1) = (i : Int) + 1 from IntWalk.wrap64_in _ (by have := HA.out.2.2.2; omega))
      clear hlt hr hi hx
      go_upto_region 4 with fail
      have ht : k ∈ l.take (i + 1) ↔ k ∈ l.take i ∨ k = x := by
        rw [List.take_add_one, HC.out.2.2.2]
        simp
      have HT := Lib.hid ht
      clear ht
      by_cases e : x = k
      · have d1 : decide (x = k) = true := decide_eq_true e
        refine wp_region_held_drew (S := fun w9 => w9 = wr.drew) (by kernel_rfl) rfl (fun hHeld => ?_)
        refine takeD (i := 0) (d := some 12) (v := (.slice (some ⟨b, o, none⟩) l.length c)) rfl (by kernel_rfl) (by kernel_rfl) (by kernel_rfl) rfl (fun _ _ _ h => h) (Or.inl ⟨by kernel_rfl, fun w9 hw => y_move rfl rfl⟩) hHeld ?_
        simp only [Act.put, List.setIfInBounds_toArray, List.set_cons_zero, List.set_cons_succ]
        refine takeD (i := 1) (d := some 13) (v := (.int .i64 (i : Int))) rfl (by kernel_rfl) (by kernel_rfl) (by kernel_rfl) rfl (fun _ _ _ h => h) (Or.inl ⟨by kernel_rfl, fun w9 hw => y_move rfl rfl⟩) hHeld ?_
        simp only [Act.put, List.setIfInBounds_toArray, List.set_cons_zero, List.set_cons_succ]
        refine takeD (i := 2) (d := some 14) (v := (.pointer (some ⟨b, o + i * 32, none⟩))) rfl (by kernel_rfl) (by kernel_rfl) (by kernel_rfl) rfl (fun _ _ _ h => h) (Or.inl ⟨by kernel_rfl, fun w9 hw => y_ixs rfl rfl rfl HC.out.1⟩) hHeld ?_
        simp only [Act.put, List.setIfInBounds_toArray, List.set_cons_zero, List.set_cons_succ]
        refine takeD (i := 3) (d := some 15) (v := (.agg x.L.toArray)) rfl (by kernel_rfl) (by kernel_rfl) (by kernel_rfl) rfl (fun _ _ _ h => h) (Or.inl ⟨by kernel_rfl, fun w9 hw => by rw [hw]; exact y_key rfl rfl HC.out.2.1⟩) hHeld ?_
        simp only [Act.put, List.setIfInBounds_toArray, List.set_cons_zero, List.set_cons_succ]
        refine takeD (i := 4) (d := some 16) (v := (.agg k.L.toArray)) rfl (by kernel_rfl) (by kernel_rfl) (by kernel_rfl) rfl (fun _ _ _ h => h) (Or.inl ⟨by kernel_rfl, fun w9 hw => by rw [hw]; exact y_key rfl rfl HC.out.2.2.1⟩) hHeld ?_
        simp only [Act.put, List.setIfInBounds_toArray, List.set_cons_zero, List.set_cons_succ]
        refine takeD (i := 5) (d := some 17) (v := (.bool true)) rfl (by kernel_rfl) (by kernel_rfl) (by kernel_rfl) rfl (fun _ _ _ h => h) (Or.inl ⟨by kernel_rfl, fun w9 hw => y_eqKd d1 rfl rfl rfl⟩) hHeld ?_
        simp only [Act.put, List.setIfInBounds_toArray, List.set_cons_zero, List.set_cons_succ]
        refine wpAnyH_done (by kernel_rfl) ?_ _
        go_wp2_with fail
        go_ret
        refine ⟨?_, HA.out.1.and_then HI.out.1.drew⟩
        show Ending.returned (.bool true) = _
        rw [decide_eq_true (List.mem_of_mem_take (HT.out.2 (.inr e.symm)))]
      · have d1 : decide (x = k) = false := decide_eq_false e
        refine wp_region_held_drew (S := fun w9 => w9 = wr.drew) (by kernel_rfl) rfl (fun hHeld => ?_)
        refine takeD (i := 0) (d := some 12) (v := (.slice (some ⟨b, o, none⟩) l.length c)) rfl (by kernel_rfl) (by kernel_rfl) (by kernel_rfl) rfl (fun _ _ _ h => h) (Or.inl ⟨by kernel_rfl, fun w9 hw => y_move rfl rfl⟩) hHeld ?_
        simp only [Act.put, List.setIfInBounds_toArray, List.set_cons_zero, List.set_cons_succ]
        refine takeD (i := 1) (d := some 13) (v := (.int .i64 (i : Int))) rfl (by kernel_rfl) (by kernel_rfl) (by kernel_rfl) rfl (fun _ _ _ h => h) (Or.inl ⟨by kernel_rfl, fun w9 hw => y_move rfl rfl⟩) hHeld ?_
        simp only [Act.put, List.setIfInBounds_toArray, List.set_cons_zero, List.set_cons_succ]
        refine takeD (i := 2) (d := some 14) (v := (.pointer (some ⟨b, o + i * 32, none⟩))) rfl (by kernel_rfl) (by kernel_rfl) (by kernel_rfl) rfl (fun _ _ _ h => h) (Or.inl ⟨by kernel_rfl, fun w9 hw => y_ixs rfl rfl rfl HC.out.1⟩) hHeld ?_
        simp only [Act.put, List.setIfInBounds_toArray, List.set_cons_zero, List.set_cons_succ]
        refine takeD (i := 3) (d := some 15) (v := (.agg x.L.toArray)) rfl (by kernel_rfl) (by kernel_rfl) (by kernel_rfl) rfl (fun _ _ _ h => h) (Or.inl ⟨by kernel_rfl, fun w9 hw => by rw [hw]; exact y_key rfl rfl HC.out.2.1⟩) hHeld ?_
        simp only [Act.put, List.setIfInBounds_toArray, List.set_cons_zero, List.set_cons_succ]
        refine takeD (i := 4) (d := some 16) (v := (.agg k.L.toArray)) rfl (by kernel_rfl) (by kernel_rfl) (by kernel_rfl) rfl (fun _ _ _ h => h) (Or.inl ⟨by kernel_rfl, fun w9 hw => by rw [hw]; exact y_key rfl rfl HC.out.2.2.1⟩) hHeld ?_
        simp only [Act.put, List.setIfInBounds_toArray, List.set_cons_zero, List.set_cons_succ]
        refine takeD (i := 5) (d := some 17) (v := (.bool false)) rfl (by kernel_rfl) (by kernel_rfl) (by kernel_rfl) rfl (fun _ _ _ h => h) (Or.inl ⟨by kernel_rfl, fun w9 hw => y_eqKd d1 rfl rfl rfl⟩) hHeld ?_
        simp only [Act.put, List.setIfInBounds_toArray, List.set_cons_zero, List.set_cons_succ]
        refine wpAnyH_done (by kernel_rfl) ?_ _
        go_wp2_with fail
        exact ⟨⟨i + 1, HC.out.1, by rw [HW.out]; rfl, HI.out.1.drew, fun c => by rcases HT.out.1 c with c | c; exact HI.out.2 c; exact e c.symm⟩, by rw [HW.out]; exact HM.out⟩
    · obtain rfl : i = l.length := by omega
      have g1 : ¬ (l.length : Int) < (l.length : Int) := by omega
      clear hlt hi
      go_wp2_with fail
      go_ret
      refine ⟨?_, HA.out.1.and_then HI.out.1⟩
      show Ending.returned (.bool false) = _
      rw [decide_eq_false (by have := HI.out.2; rw [List.take_length] at this; exact this)]
end Go.Proofs.Ytknbehjhaaidoaa.IX

/- Sweeping: the code behind the second loop. -/
namespace Go.Proofs.Ytknbehjhaaidoaa.IX
open Go.RowKit Go.Shelf Mem HD TB
set_option linter.unusedVariables false
set_option linter.unusedSimpArgs false
section
variable {a : Act} {o : Oper} {w : World}
theorem y_fsw {x : Operand} {g k : Nat} (hk : k < 2) (ho : o.op = .fieldAddr 48 x k) (hx : a.eval x = .pointer (some ⟨g, 0, none⟩)) : (execOp a.eval o).run Try.prog w = .ok (.value (.pointer (some ⟨g, k, none⟩))) w := by
  generalize a.eval = ev at hx
  obtain rfl | rfl : k = 0 ∨ k = 1 := by omega
  all_goals
    unfold execOp
    simp only [ho, hx]
    go_simp
theorem y_ldk {x : Operand} {p : Addr} {A : Option Addr} {n c : Nat} (ho : o.op = .load 45 x) (hx : a.eval x = .pointer (some p)) (hc : w.cell? p = some (.slice A n c)) : (execOp a.eval o).run Try.prog w = .ok (.value (.slice A n c)) w := by
  generalize a.eval = ev at hx
  unfold execOp
  simp only [ho, hx]
  go_simp
theorem y_ldkk {x : Operand} {p : Addr} {A : Option Addr} {n c : Nat} (ho : o.op = .load 46 x) (hx : a.eval x = .pointer (some p)) (hc : w.cell? p = some (.slice A n c)) : (execOp a.eval o).run Try.prog w = .ok (.value (.slice A n c)) w := by
  generalize a.eval = ev at hx
  unfold execOp
  simp only [ho, hx]
  go_simp
theorem y_lenk {x : Operand} {t : TypeId} {A : Option Addr} {n c : Nat} (ht : t = 45 ∨ t = 46) (ho : o.op = .call { callee := .builtin .len, args := #[x], argTypes := #[t] }) (hx : a.eval x = .slice A n c) : (execOp a.eval o).run Try.prog w = .ok (.value (.int .i64 (n : Int))) w := by
  generalize a.eval = ev at hx
  unfold execOp
  simp only [ho, hx]
  rcases ht with rfl | rfl <;> go_simp
theorem y_eqi {x y : Operand} {m n : Int} {d : Bool} (hd : decide (m = n) = d) (ho : o.op = .binOp .eql 3 x y 3) (hx : a.eval x = .int .i64 m) (hy : a.eval y = .int .i64 n) : (execOp a.eval o).run Try.prog w = .ok (.value (.bool d)) w := by
  subst hd
  generalize a.eval = ev at hx hy
  unfold execOp
  simp only [ho, hx, hy]
  go_simp
  by_cases h : m = n <;> simp [h]
end
end Go.Proofs.Ytknbehjhaaidoaa.IX

/- Sweeping: operations of the loop over a big frame. -/
namespace Go.Proofs.Ytknbehjhaaidoaa.IX
open Go.RowKit Go.Shelf Mem HD TB
set_option linter.unusedVariables false
set_option linter.unusedSimpArgs false
section
variable {a : Act} {o : Oper} {w : World} {ops : Array Oper} {rest : List Oper} {Q : Exit → Act → World → Prop} {d : Option Tmp}
theorem y_ixss {x y : Operand} {b off n c p : Nat} (ho : o.op = .indexAddr 46 x y) (hx : a.eval x = .slice (some ⟨b, off, none⟩) n c) (hy : a.eval y = .int .i64 (p : Int)) (hp : p < n) : (execOp a.eval o).run Try.prog w = .ok (.value (.pointer (some ⟨b, off + p, none⟩))) w := by
  have hp0 : (0 : Int) ≤ (p : Int) := by omega
  have hpi : (p : Int) < (n : Int) := by omega
  have ha : (⟨b, off, none⟩ : Addr).add p = ⟨b, off + p, none⟩ := add_plain _ _ _
  generalize a.eval = ev at hx hy
  unfold execOp
  simp only [ho, hx, hy]
  go_simp
theorem y_allocK (ho : o.op = .alloc 39) : (execOp a.eval o).run Try.prog w = .ok (.value (.pointer (some ⟨w.heap.size, 0, none⟩))) (w.alloc (.cells k0.L.toArray 39)) := by
  unfold execOp
  simp only [ho]
  go_simp
  rfl
theorem y_allocE (ho : o.op = .alloc 56) : (execOp a.eval o).run Try.prog w = .ok (.value (.pointer (some ⟨w.heap.size, 0, none⟩))) (w.alloc (.cells e0.L.toArray 56)) := by
  unfold execOp
  simp only [ho]
  go_simp
  rfl
theorem y_allocKV (ho : o.op = .alloc 58) : (execOp a.eval o).run Try.prog w = .ok (.value (.pointer (some ⟨w.heap.size, 0, none⟩))) (w.alloc (.cells (kvL none).toArray 58)) := by
  unfold execOp
  simp only [ho]
  go_simp
  rfl
theorem y_lssi {x y : Operand} {m n : Int} {d : Bool} (hd : decide (m < n) = d) (ho : o.op = .binOp .lss 3 x y 3) (hx : a.eval x = .int .i64 m) (hy : a.eval y = .int .i64 n) : (execOp a.eval o).run Try.prog w = .ok (.value (.bool d)) w := by
  subst hd
  generalize a.eval = ev at hx hy
  unfold execOp
  simp only [ho, hx, hy]
  go_simp
theorem y_subi {x y : Operand} {m n : Int} (hr : -9223372036854775808 ≤ m - n ∧ m - n ≤ 9223372036854775807) (ho : o.op = .binOp .sub 3 x y 3) (hx : a.eval x = .int .i64 m) (hy : a.eval y = .int .i64 n) : (execOp a.eval o).run Try.prog w = .ok (.value (.int .i64 (m - n))) w := by
  have hw := IntWalk.wrap64_in _ hr
  generalize a.eval = ev at hx hy
  unfold execOp
  simp only [ho, hx, hy]
  go_simp
  rw [IntKind.wrap_i64]; omega
theorem y_addi {x y : Operand} {m n : Int} (hr : -9223372036854775808 ≤ m + n ∧ m + n ≤ 9223372036854775807) (ho : o.op = .binOp .add 3 x y 3) (hx : a.eval x = .int .i64 m) (hy : a.eval y = .int .i64 n) : (execOp a.eval o).run Try.prog w = .ok (.value (.int .i64 (m + n))) w := by
  have hw := IntWalk.wrap64_in _ hr
  generalize a.eval = ev at hx hy
  unfold execOp
  simp only [ho, hx, hy]
  go_simp
  rw [IntKind.wrap_i64]; omega
set_option maxRecDepth 100000 in
theorem y_e0 (ho : o.op = .build 56 #[]) : (execOp a.eval o).run Try.prog w = .ok (.value (.agg e0.L.toArray)) w := by
  have h := run_build (P := Try.prog) w 56 #[] e0.L.toArray (by kernel_rfl)
  unfold execOp
  simp only [ho, List.map_toArray, List.map_nil, Sem.run_bind, h, Result.andThen_ok, Sem.run_pure]
set_option maxRecDepth 100000 in
theorem y_k0 (ho : o.op = .build 39 #[]) : (execOp a.eval o).run Try.prog w = .ok (.value (.agg k0.L.toArray)) w := by
  have h := run_build (P := Try.prog) w 39 #[] k0.L.toArray (by kernel_rfl)
  unfold execOp
  simp only [ho, List.map_toArray, List.map_nil, Sem.run_bind, h, Result.andThen_ok, Sem.run_pure]
theorem ent_sized (x : Int) : Try.prog.built 56 [(1, .int .i64 x)] = some (⟨0, 0, x, 0⟩ : Ent).L.toArray := by kernel_rfl
theorem y_eS {x : Operand} {n : Int} (ho : o.op = .build 56 #[(1, x)]) (hx : a.eval x = .int .i64 n) : (execOp a.eval o).run Try.prog w = .ok (.value (.agg (⟨0, 0, n, 0⟩ : Ent).L.toArray)) w := by
  have h := run_build (P := Try.prog) w 56 #[(1, .int .i64 n)] _ (ent_sized n)
  unfold execOp
  simp only [ho, hx, List.map_toArray, List.map_cons, List.map_nil, Sem.run_bind, h, Result.andThen_ok, Sem.run_pure]
theorem wl_keyF {a' : Act} {x y : Operand} (ho : o.op = .store 39 x y) (b : Nat) (k : Key) (hw : Region.wanted o (yielded ops a.tmps) = true) (hd : o.dst = none) (ha : a.put none undef = a') (hx : a.eval x = .pointer (some ⟨b, 0, none⟩)) (hy : a.eval y = .agg k.L.toArray)
    {kk : Key} (hb : Blk w b 39 kk.L.toArray) (h : WL ops Q rest a' (w.setCells b 0 k.L)) : WL ops Q (o :: rest) a w :=
  wl_storeF ho b 0 k.L.toArray hw hd ha hx hy (blk_there hb 0 _ (by rw [List.size_toArray, List.size_toArray, Key.len, Key.len]; decide)) (by rw [List.size_toArray]; exact key_sizeG k.len) (all_oneCell_toArray (key_ones k)) h
theorem wl_entF {a' : Act} {x y : Operand} (ho : o.op = .store 56 x y) (b : Nat) (e : Ent) (hw : Region.wanted o (yielded ops a.tmps) = true) (hd : o.dst = none) (ha : a.put none undef = a') (hx : a.eval x = .pointer (some ⟨b, 0, none⟩)) (hy : a.eval y = .agg e.L.toArray)
    {ee : Ent} (hb : Blk w b 56 ee.L.toArray) (h : WL ops Q rest a' (w.setCells b 0 e.L)) : WL ops Q (o :: rest) a w :=
  wl_storeF ho b 0 e.L.toArray hw hd ha hx hy (blk_there hb 0 _ (Nat.le_refl 4)) (ent_sizeG e) (all_oneCell_toArray (ent_ones e)) h
theorem wl_kvF {a' : Act} {x y : Operand} (ho : o.op = .store 58 x y) (b : Nat) (r : Option (Key × Ent)) (hw : Region.wanted o (yielded ops a.tmps) = true) (hd : o.dst = none) (ha : a.put none undef = a') (hx : a.eval x = .pointer (some ⟨b, 0, none⟩)) (hy : a.eval y = .agg (kvL r).toArray)
    {rr : Option (Key × Ent)} (hb : Blk w b 58 (kvL rr).toArray) (h : WL ops Q rest a' (w.setCells b 0 (kvL r))) : WL ops Q (o :: rest) a w :=
  wl_storeF ho b 0 (kvL r).toArray hw hd ha hx hy (blk_there hb 0 _ (by rw [List.size_toArray, List.size_toArray, kvL_len, kvL_len]; decide)) (by rw [List.size_toArray]; exact keyed_sizeG (kvL_len r)) (all_oneCell_toArray (kvL_ones r)) h
end
/-- A fresh block, filled. -/
theorem fresh_key (w : World) (k : Key) : Mod no w ((w.alloc (.cells k0.L.toArray 39)).setCells w.heap.size 0 k.L) ∧ Blk ((w.alloc (.cells k0.L.toArray 39)).setCells w.heap.size 0 k.L) w.heap.size 39 k.L.toArray := by
  refine ⟨mod_setCells (fun c => absurd c (Nat.lt_irrefl _)) _ _ _ ((Mod.refl no w).alloc _), ?_⟩
  have h1 := blk_sets w.heap.size k.L 0 k0.L _ (Blk.new w 39 k0.L.toArray) (by rw [Key.len, Key.len]; decide)
  rw [show k0.L.take 0 ++ k.L ++ k0.L.drop (0 + k.L.length) = k.L from by rw [List.drop_of_length_le (by rw [Key.len, Key.len]; decide)]; simp] at h1
  exact h1
theorem fresh_ent (w : World) (e : Ent) : Mod no w ((w.alloc (.cells e0.L.toArray 56)).setCells w.heap.size 0 e.L) := mod_setCells (fun c => absurd c (Nat.lt_irrefl _)) _ _ _ ((Mod.refl no w).alloc _)
theorem fresh_kv (w : World) (r : Option (Key × Ent)) : Mod no w ((w.alloc (.cells (kvL none).toArray 58)).setCells w.heap.size 0 (kvL r)) ∧ Blk ((w.alloc (.cells (kvL none).toArray 58)).setCells w.heap.size 0 (kvL r)) w.heap.size 58 (kvL r).toArray := by
  refine ⟨mod_setCells (fun c => absurd c (Nat.lt_irrefl _)) _ _ _ ((Mod.refl no w).alloc _), ?_⟩
  have h1 := blk_sets w.heap.size (kvL r) 0 (kvL none) _ (Blk.new w 58 (kvL none).toArray) (by rw [kvL_len, kvL_len]; decide)
  rw [show (kvL none).take 0 ++ kvL r ++ (kvL none).drop (0 + (kvL r).length) = kvL r from by rw [List.drop_of_length_le (by rw [kvL_len, kvL_len]; decide)]; simp] at h1
  exact h1
end Go.Proofs.Ytknbehjhaaidoaa.IX

