/- IndexExact: the texts RiA RiB RiC of this seat, one behind the other. -/
import Derived.Test.YtknbehjhaaidoaaM16
import Derived.Test.YtknbehjhaaidoaaM14
import Derived.Test.YtknbehjhaaidoaaM03
import Derived.Test.YtknbehjhaaidoaaM18
/- The document's index: New, find, Compare. -/
namespace Go.Proofs.Ytknbehjhaaidoaa.IX
open Go.RowKit Go.Shelf Mem HD TB
set_option linter.unusedVariables false
set_option linter.unusedSimpArgs false
/-- The document's index at block r: its list. -/
def RAt (w : World) (r : Nat) (v : Value) (l : List (Key × Ent)) : Prop := Blk w r 79 #[v] ∧ KvAt w v l
section
variable {a : Act} {o : Oper} {w : World}
theorem y_fri {x : Operand} {g : Nat} (ho : o.op = .fieldAddr 79 x 0) (hx : a.eval x = .pointer (some ⟨g, 0, none⟩)) : (execOp a.eval o).run Try.prog w = .ok (.value (.pointer (some ⟨g, 0, none⟩))) w := by
  generalize a.eval = ev at hx
  unfold execOp
  simp only [ho, hx]
  go_simp
theorem y_fk0 {x : Operand} {b off : Nat} (ho : o.op = .fieldAddr 58 x 0) (hx : a.eval x = .pointer (some ⟨b, off, none⟩)) : (execOp a.eval o).run Try.prog w = .ok (.value (.pointer (some ⟨b, off, none⟩))) w := by
  generalize a.eval = ev at hx
  unfold execOp
  simp only [ho, hx]
  go_simp
theorem y_fk1 {x : Operand} {b off : Nat} (ho : o.op = .fieldAddr 58 x 1) (hx : a.eval x = .pointer (some ⟨b, off, none⟩)) : (execOp a.eval o).run Try.prog w = .ok (.value (.pointer (some ⟨b, off + 32, none⟩))) w := by
  generalize a.eval = ev at hx
  unfold execOp
  simp only [ho, hx]
  go_simp
theorem y_lenkv {x : Operand} {A : Option Addr} {n c : Nat} (ho : o.op = .call { callee := .builtin .len, args := #[x], argTypes := #[77] }) (hx : a.eval x = .slice A n c) : (execOp a.eval o).run Try.prog w = .ok (.value (.int .i64 (n : Int))) w := by
  generalize a.eval = ev at hx
  unfold execOp
  simp only [ho, hx]
  go_simp
theorem y_gtr8 {x y : Operand} {m n : Int} {d : Bool} (hd : decide (m > n) = d) (ho : o.op = .binOp .gtr 5 x y 5) (hx : a.eval x = .int .u8 m) (hy : a.eval y = .int .u8 n) : (execOp a.eval o).run Try.prog w = .ok (.value (.bool d)) w := by
  subst hd
  generalize a.eval = ev at hx hy
  unfold execOp
  simp only [ho, hx, hy]
  go_simp
end
/-- Where a key is found. -/
def At (l : List (Key × Ent)) (k : Key) : Option Nat → Prop
  | some i => ∃ x, l[i]? = some x ∧ x.1 = k
  | none => ∀ x ∈ l, x.1 ≠ k
def atV : Option Nat → Int
  | some i => (i : Int)
  | none => -1
set_option maxRecDepth 100000 in
theorem rnew_any (w : World) : Calls Try.prog 27 #[] w fun e w' => e = .returned (.pointer (some ⟨w.heap.size, 0, none⟩)) ∧ w' = w.alloc (.cells #[.slice none 0 0] 79) := by
  go_enter Try.func27, Try.ntmps27
  go_wp2_with fail
  go_ret
  exact ⟨rfl, rfl⟩
set_option maxRecDepth 100000 in
theorem rfind_any {w : World} {r : Nat} {v : Value} {l : List (Key × Ent)} (h : RAt w r v l) (hl : l.length ≤ 2097152) (k : Key) : Calls Try.prog 96 #[.pointer (some ⟨r, 0, none⟩), .agg k.L.toArray] w fun e w' => ∃ o, e = .returned (.int .i64 (atV o)) ∧ At l k o ∧ Mod no w w' := by
  have hm : Mod no w (w.alloc (.cells k.L.toArray 39)) := (Mod.refl no w).alloc _
  have h1 : (w.alloc (.cells k.L.toArray 39)).rangeAt w.heap.size 0 k.L := blk_range (Blk.new w 39 k.L.toArray)
  obtain ⟨A, c, rfl, hr⟩ := h.2.mod hm (fun _ _ c => c)
  have HA := Lib.hid (And.intro hm (And.intro h1 (And.intro hr (And.intro hl (h.1.mod hm (fun c => c))))))
  clear hm h1 h hr hl
  go_enter Try.func96, Try.ntmps96
  go_upto_region 2 with fail
  obtain ⟨w2, hw2⟩ : ∃ w2, w2 = w.alloc (.cells k.L.toArray 39) := ⟨_, rfl⟩
  rw [← hw2] at HA ⊢
  clear hw2
  obtain ⟨h0, hh0⟩ : ∃ h0, h0 = w.heap.size := ⟨_, rfl⟩
  rw [← hh0] at HA ⊢
  clear hh0
  go_loopw [5] (fun v w' => ∃ i : Nat, i ≤ l.length ∧ v = .int .i64 (i : Int) ∧ Mod no w2 w' ∧ ∀ x ∈ l.take i, x.1 ≠ k) (fun v _ => l.length - (intOf v).toNat)
  case atStart => exact ⟨0, Nat.zero_le _, rfl, Mod.refl _ _, by simp⟩
  case round =>
    obtain ⟨i, hi, rfl, hm, hc⟩ := hrel
    have hbr := HA.out.2.2.2.2.mod hm (fun c => c)
    have c0 := hbr.cell 0
    have HI := Lib.hid (And.intro hm (And.intro hc hbr))
    clear hm hc hbr
    by_cases hlt : i < l.length
    · have g1 : (i : Int) < (l.length : Int) := by omega
      obtain ⟨x, hx⟩ : ∃ x, l[i]? = some x := ⟨_, List.getElem?_eq_getElem hlt⟩
      obtain ⟨b, o, rfl, hr⟩ := HA.out.2.2.1 i x hx
      have HC := Lib.hid (And.intro hlt (And.intro (pair_key (range_mod hr HI.out.1 (fun c => c))).1 (And.intro (range_mod HA.out.2.1 HI.out.1 (fun c => c)) hx)))
      have HM := Lib.hid (show l.length - ((i : Int) + 1).toNat < l.length - ((i : Int)).toNat by omega)
      have HW := Lib.hid (show wrap64 ((i : Int) + 1) = (i : Int) + 1 from IntWalk.wrap64_in _ (by have := HA.out.2.2.2.1; omega))
      clear hlt hr hi hx
      go_upto_region 4 with fail
      clear c0
      by_cases e : x.1 = k
      · have d1 : decide (x.1 = k) = true := decide_eq_true e
        refine wp_region_held_drew (S := fun w9 => w9 = wr.drew) (by kernel_rfl) rfl (fun hHeld => ?_)
        refine takeD (i := 0) (d := some 15) (v := (.pointer (some ⟨r, 0, none⟩))) rfl (by kernel_rfl) (by kernel_rfl) (by kernel_rfl) rfl (fun _ _ _ h => h) (Or.inl ⟨by kernel_rfl, fun w9 hw => y_move rfl rfl⟩) hHeld ?_
        simp only [Act.put, List.setIfInBounds_toArray, List.set_cons_zero, List.set_cons_succ]
        refine takeD (i := 1) (d := some 16) (v := (.pointer (some ⟨r, 0, none⟩))) rfl (by kernel_rfl) (by kernel_rfl) (by kernel_rfl) rfl (fun _ _ _ h => h) (Or.inl ⟨by kernel_rfl, fun w9 hw => y_nil rfl rfl⟩) hHeld ?_
        simp only [Act.put, List.setIfInBounds_toArray, List.set_cons_zero, List.set_cons_succ]
        refine takeD (i := 2) (d := some 17) (v := (.pointer (some ⟨r, 0, none⟩))) rfl (by kernel_rfl) (by kernel_rfl) (by kernel_rfl) rfl (fun _ _ _ h => h) (Or.inl ⟨by kernel_rfl, fun w9 hw => y_fri rfl rfl⟩) hHeld ?_
        simp only [Act.put, List.setIfInBounds_toArray, List.set_cons_zero, List.set_cons_succ]
        refine takeD (i := 3) (d := some 18) (v := (.slice (some ⟨b, o, none⟩) l.length c)) rfl (by kernel_rfl) (by kernel_rfl) (by kernel_rfl) rfl (fun _ _ _ h => h) (Or.inl ⟨by kernel_rfl, fun w9 hw => by rw [hw]; exact y_ldkv rfl rfl (HI.out.2.2.cell 0)⟩) hHeld ?_
        simp only [Act.put, List.setIfInBounds_toArray, List.set_cons_zero, List.set_cons_succ]
        refine takeD (i := 4) (d := some 19) (v := (.int .i64 (i : Int))) rfl (by kernel_rfl) (by kernel_rfl) (by kernel_rfl) rfl (fun _ _ _ h => h) (Or.inl ⟨by kernel_rfl, fun w9 hw => y_move rfl rfl⟩) hHeld ?_
        simp only [Act.put, List.setIfInBounds_toArray, List.set_cons_zero, List.set_cons_succ]
        refine takeD (i := 5) (d := some 20) (v := (.pointer (some ⟨b, o + i * 36, none⟩))) rfl (by kernel_rfl) (by kernel_rfl) (by kernel_rfl) rfl (fun _ _ _ h => h) (Or.inl ⟨by kernel_rfl, fun w9 hw => y_ixkv rfl rfl rfl HC.out.1⟩) hHeld ?_
        simp only [Act.put, List.setIfInBounds_toArray, List.set_cons_zero, List.set_cons_succ]
        refine takeD (i := 6) (d := some 21) (v := (.pointer (some ⟨b, o + i * 36, none⟩))) rfl (by kernel_rfl) (by kernel_rfl) (by kernel_rfl) rfl (fun _ _ _ h => h) (Or.inl ⟨by kernel_rfl, fun w9 hw => y_fk0 rfl rfl⟩) hHeld ?_
        simp only [Act.put, List.setIfInBounds_toArray, List.set_cons_zero, List.set_cons_succ]
        refine takeD (i := 7) (d := some 22) (v := (.agg x.1.L.toArray)) rfl (by kernel_rfl) (by kernel_rfl) (by kernel_rfl) rfl (fun _ _ _ h => h) (Or.inl ⟨by kernel_rfl, fun w9 hw => by rw [hw]; exact y_key rfl rfl HC.out.2.1⟩) hHeld ?_
        simp only [Act.put, List.setIfInBounds_toArray, List.set_cons_zero, List.set_cons_succ]
        refine takeD (i := 8) (d := some 23) (v := (.agg k.L.toArray)) rfl (by kernel_rfl) (by kernel_rfl) (by kernel_rfl) rfl (fun _ _ _ h => h) (Or.inl ⟨by kernel_rfl, fun w9 hw => by rw [hw]; exact y_key rfl rfl HC.out.2.2.1⟩) hHeld ?_
        simp only [Act.put, List.setIfInBounds_toArray, List.set_cons_zero, List.set_cons_succ]
        refine takeD (i := 9) (d := some 24) (v := (.bool true)) rfl (by kernel_rfl) (by kernel_rfl) (by kernel_rfl) rfl (fun _ _ _ h => h) (Or.inl ⟨by kernel_rfl, fun w9 hw => y_eqKd d1 rfl rfl rfl⟩) hHeld ?_
        simp only [Act.put, List.setIfInBounds_toArray, List.set_cons_zero, List.set_cons_succ]
        refine wpAnyH_done (by kernel_rfl) ?_ _
        go_wp2_with fail
        go_ret
        exact ⟨some i, rfl, ⟨x, HC.out.2.2.2, e⟩, HA.out.1.and_then HI.out.1.drew⟩
      · have d1 : decide (x.1 = k) = false := decide_eq_false e
        refine wp_region_held_drew (S := fun w9 => w9 = wr.drew) (by kernel_rfl) rfl (fun hHeld => ?_)
        refine takeD (i := 0) (d := some 15) (v := (.pointer (some ⟨r, 0, none⟩))) rfl (by kernel_rfl) (by kernel_rfl) (by kernel_rfl) rfl (fun _ _ _ h => h) (Or.inl ⟨by kernel_rfl, fun w9 hw => y_move rfl rfl⟩) hHeld ?_
        simp only [Act.put, List.setIfInBounds_toArray, List.set_cons_zero, List.set_cons_succ]
        refine takeD (i := 1) (d := some 16) (v := (.pointer (some ⟨r, 0, none⟩))) rfl (by kernel_rfl) (by kernel_rfl) (by kernel_rfl) rfl (fun _ _ _ h => h) (Or.inl ⟨by kernel_rfl, fun w9 hw => y_nil rfl rfl⟩) hHeld ?_
        simp only [Act.put, List.setIfInBounds_toArray, List.set_cons_zero, List.set_cons_succ]
        refine takeD (i := 2) (d := some 17) (v := (.pointer (some ⟨r, 0, none⟩))) rfl (by kernel_rfl) (by kernel_rfl) (by kernel_rfl) rfl (fun _ _ _ h => h) (Or.inl ⟨by kernel_rfl, fun w9 hw => y_fri rfl rfl⟩) hHeld ?_
        simp only [Act.put, List.setIfInBounds_toArray, List.set_cons_zero, List.set_cons_succ]
        refine takeD (i := 3) (d := some 18) (v := (.slice (some ⟨b, o, none⟩) l.length c)) rfl (by kernel_rfl) (by kernel_rfl) (by kernel_rfl) rfl (fun _ _ _ h => h) (Or.inl ⟨by kernel_rfl, fun w9 hw => by rw [hw]; exact y_ldkv rfl rfl (HI.out.2.2.cell 0)⟩) hHeld ?_
        simp only [Act.put, List.setIfInBounds_toArray, List.set_cons_zero, List.set_cons_succ]
        refine takeD (i := 4) (d := some 19) (v := (.int .i64 (i : Int))) rfl (by kernel_rfl) (by kernel_rfl) (by kernel_rfl) rfl (fun _ _ _ h => h) (Or.inl ⟨by kernel_rfl, fun w9 hw => y_move rfl rfl⟩) hHeld ?_
        simp only [Act.put, List.setIfInBounds_toArray, List.set_cons_zero, List.set_cons_succ]
        refine takeD (i := 5) (d := some 20) (v := (.pointer (some ⟨b, o + i * 36, none⟩))) rfl (by kernel_rfl) (by kernel_rfl) (by kernel_rfl) rfl (fun _ _ _ h => h) (Or.inl ⟨by kernel_rfl, fun w9 hw => y_ixkv rfl rfl rfl HC.out.1⟩) hHeld ?_
        simp only [Act.put, List.setIfInBounds_toArray, List.set_cons_zero, List.set_cons_succ]
        refine takeD (i := 6) (d := some 21) (v := (.pointer (some ⟨b, o + i * 36, none⟩))) rfl (by kernel_rfl) (by kernel_rfl) (by kernel_rfl) rfl (fun _ _ _ h => h) (Or.inl ⟨by kernel_rfl, fun w9 hw => y_fk0 rfl rfl⟩) hHeld ?_
        simp only [Act.put, List.setIfInBounds_toArray, List.set_cons_zero, List.set_cons_succ]
        refine takeD (i := 7) (d := some 22) (v := (.agg x.1.L.toArray)) rfl (by kernel_rfl) (by kernel_rfl) (by kernel_rfl) rfl (fun _ _ _ h => h) (Or.inl ⟨by kernel_rfl, fun w9 hw => by rw [hw]; exact y_key rfl rfl HC.out.2.1⟩) hHeld ?_
        simp only [Act.put, List.setIfInBounds_toArray, List.set_cons_zero, List.set_cons_succ]
        refine takeD (i := 8) (d := some 23) (v := (.agg k.L.toArray)) rfl (by kernel_rfl) (by kernel_rfl) (by kernel_rfl) rfl (fun _ _ _ h => h) (Or.inl ⟨by kernel_rfl, fun w9 hw => by rw [hw]; exact y_key rfl rfl HC.out.2.2.1⟩) hHeld ?_
        simp only [Act.put, List.setIfInBounds_toArray, List.set_cons_zero, List.set_cons_succ]
        refine takeD (i := 9) (d := some 24) (v := (.bool false)) rfl (by kernel_rfl) (by kernel_rfl) (by kernel_rfl) rfl (fun _ _ _ h => h) (Or.inl ⟨by kernel_rfl, fun w9 hw => y_eqKd d1 rfl rfl rfl⟩) hHeld ?_
        simp only [Act.put, List.setIfInBounds_toArray, List.set_cons_zero, List.set_cons_succ]
        refine wpAnyH_done (by kernel_rfl) ?_ _
        go_wp2_with fail
        exact ⟨⟨i + 1, HC.out.1, by rw [HW.out]; rfl, HI.out.1.drew, fun y hy => by
          rw [List.take_add_one, HC.out.2.2.2] at hy
          rcases List.mem_append.1 hy with hy | hy
          · exact HI.out.2.1 y hy
          · simp at hy; rw [hy]; exact e⟩, by rw [HW.out]; exact HM.out⟩
    · obtain rfl : i = l.length := by omega
      have g1 : ¬ (l.length : Int) < (l.length : Int) := by omega
      clear hlt hi
      go_wp2_with fail
      go_ret
      exact ⟨none, rfl, by have := HI.out.2.1; rw [List.take_length] at this; exact this, HA.out.1.and_then HI.out.1⟩
set_option maxRecDepth 100000 in
theorem cmp3_any (a b : Key) (w : World) : Calls Try.prog 97 #[.agg a.L.toArray, .agg b.L.toArray] w fun e w' => e = .returned (.int .i64 (Lib.compareBytes a.1 b.1)) ∧ Mod no w w' := by
  have hm : Mod no w ((w.alloc (.cells a.L.toArray 39)).alloc (.cells b.L.toArray 39)) := ((Mod.refl no w).alloc _).alloc _
  have h1 : ((w.alloc (.cells a.L.toArray 39)).alloc (.cells b.L.toArray 39)).rangeAt w.heap.size 0 a.L := blk_range ((Blk.new w 39 a.L.toArray).alloc _)
  have h2 : ((w.alloc (.cells a.L.toArray 39)).alloc (.cells b.L.toArray 39)).rangeAt (w.heap.size + 1) 0 b.L := blk_range (Blk.new_at (w.alloc (.cells a.L.toArray 39)) 39 b.L.toArray (by simp))
  have HA := Lib.hid (And.intro hm (And.intro h1 h2))
  clear hm h1 h2
  go_enter Try.func97, Try.ntmps97
  go_upto_region 2 with fail
  obtain ⟨w2, hw2⟩ : ∃ w2, w2 = (w.alloc (.cells a.L.toArray 39)).alloc (.cells b.L.toArray 39) := ⟨_, rfl⟩
  rw [← hw2] at HA ⊢
  clear hw2
  obtain ⟨h0, hh0⟩ : ∃ h0, h0 = w.heap.size := ⟨_, rfl⟩
  rw [← hh0] at HA ⊢
  clear hh0
  go_loopw [5] (fun v w' => ∃ i : Nat, i ≤ 32 ∧ v = .int .i64 (i : Int) ∧ Mod no w2 w' ∧ Lib.compareBytes a.1 b.1 = Lib.compareBytes (a.1.drop i) (b.1.drop i)) (fun v _ => 32 - (intOf v).toNat)
  case atStart => exact ⟨0, by omega, rfl, Mod.refl _ _, rfl⟩
  case round =>
    obtain ⟨i, hi, rfl, hm, hc⟩ := hrel
    have HI := Lib.hid (And.intro hm hc)
    clear hm hc
    by_cases hlt : i < 32
    · have g1 : (i : Int) < 32 := by omega
      obtain ⟨x, hx⟩ : ∃ x, a.1[i]? = some x := ⟨_, List.getElem?_eq_getElem (by rw [a.2]; exact hlt)⟩
      obtain ⟨y, hy⟩ : ∃ y, b.1[i]? = some y := ⟨_, List.getElem?_eq_getElem (by rw [b.2]; exact hlt)⟩
      have c1 : wr.cell? ⟨h0, i, none⟩ = some (.int .u8 (x.toNat : Int)) := by have := key_cell (range_mod HA.out.2.1 HI.out.1 (fun c => c)) hx; rw [Nat.zero_add] at this; exact this
      have c2 : wr.cell? ⟨h0 + 1, i, none⟩ = some (.int .u8 (y.toNat : Int)) := by have := key_cell (range_mod HA.out.2.2 HI.out.1 (fun c => c)) hy; rw [Nat.zero_add] at this; exact this
      have hs := cmp_step hx hy
      have hlt2 : x < y ↔ (x.toNat : Int) < (y.toNat : Int) := by rw [UInt8.lt_iff_toNat_lt]; omega
      have hgt2 : y < x ↔ (y.toNat : Int) < (x.toNat : Int) := by rw [UInt8.lt_iff_toNat_lt]; omega
      have HC := Lib.hid (And.intro hlt (And.intro c1 (And.intro c2 hs)))
      have HO := Lib.hid (And.intro hlt2 hgt2)
      clear hlt c1 c2 hs hx hy hi hlt2 hgt2
      go_upto_region 4 with fail
      by_cases e : x < y
      · have d1 : decide ((x.toNat : Int) < (y.toNat : Int)) = true := decide_eq_true (HO.out.1.1 e)
        refine wp_region_held_drew (S := fun w9 => w9 = wr.drew) (by kernel_rfl) rfl (fun hHeld => ?_)
        refine takeD (i := 0) (d := some 10) (v := (.int .i64 (i : Int))) rfl (by kernel_rfl) (by kernel_rfl) (by kernel_rfl) rfl (fun _ _ _ h => h) (Or.inl ⟨by kernel_rfl, fun w9 hw => y_move rfl rfl⟩) hHeld ?_
        simp only [Act.put, List.setIfInBounds_toArray, List.set_cons_zero, List.set_cons_succ]
        refine takeD (i := 1) (d := some 11) (v := (.pointer (some ⟨h0, i, none⟩))) rfl (by kernel_rfl) (by kernel_rfl) (by kernel_rfl) rfl (fun _ _ _ h => h) (Or.inl ⟨by kernel_rfl, fun w9 hw => y_ixk rfl rfl rfl HC.out.1⟩) hHeld ?_
        simp only [Act.put, List.setIfInBounds_toArray, List.set_cons_zero, List.set_cons_succ]
        refine takeD (i := 2) (d := some 12) (v := (.int .u8 (x.toNat : Int))) rfl (by kernel_rfl) (by kernel_rfl) (by kernel_rfl) rfl (fun _ _ _ h => h) (Or.inl ⟨by kernel_rfl, fun w9 hw => by rw [hw]; exact y_one rfl (by decide) rfl HC.out.2.1 rfl⟩) hHeld ?_
        simp only [Act.put, List.setIfInBounds_toArray, List.set_cons_zero, List.set_cons_succ]
        refine takeD (i := 3) (d := some 13) (v := (.int .i64 (i : Int))) rfl (by kernel_rfl) (by kernel_rfl) (by kernel_rfl) rfl (fun _ _ _ h => h) (Or.inl ⟨by kernel_rfl, fun w9 hw => y_move rfl rfl⟩) hHeld ?_
        simp only [Act.put, List.setIfInBounds_toArray, List.set_cons_zero, List.set_cons_succ]
        refine takeD (i := 4) (d := some 14) (v := (.pointer (some ⟨(h0 + 1), i, none⟩))) rfl (by kernel_rfl) (by kernel_rfl) (by kernel_rfl) rfl (fun _ _ _ h => h) (Or.inl ⟨by kernel_rfl, fun w9 hw => y_ixk rfl rfl rfl HC.out.1⟩) hHeld ?_
        simp only [Act.put, List.setIfInBounds_toArray, List.set_cons_zero, List.set_cons_succ]
        refine takeD (i := 5) (d := some 15) (v := (.int .u8 (y.toNat : Int))) rfl (by kernel_rfl) (by kernel_rfl) (by kernel_rfl) rfl (fun _ _ _ h => h) (Or.inl ⟨by kernel_rfl, fun w9 hw => by rw [hw]; exact y_one rfl (by decide) rfl HC.out.2.2.1 rfl⟩) hHeld ?_
        simp only [Act.put, List.setIfInBounds_toArray, List.set_cons_zero, List.set_cons_succ]
        refine takeD (i := 6) (d := some 16) (v := (.bool true)) rfl (by kernel_rfl) (by kernel_rfl) (by kernel_rfl) rfl (fun _ _ _ h => h) (Or.inl ⟨by kernel_rfl, fun w9 hw => y_lss8 d1 rfl rfl rfl⟩) hHeld ?_
        simp only [Act.put, List.setIfInBounds_toArray, List.set_cons_zero, List.set_cons_succ]
        refine wpAnyH_done (by kernel_rfl) ?_ _
        go_wp2_with fail
        go_ret
        exact ⟨by show _ = _; rw [HI.out.2, HC.out.2.2.2, if_pos e]; rfl, HA.out.1.and_then HI.out.1.drew⟩
      · have d1 : decide ((x.toNat : Int) < (y.toNat : Int)) = false := decide_eq_false (fun c => e (HO.out.1.2 c))
        refine wp_region_held_drew (S := fun w9 => w9 = wr.drew) (by kernel_rfl) rfl (fun hHeld => ?_)
        refine takeD (i := 0) (d := some 10) (v := (.int .i64 (i : Int))) rfl (by kernel_rfl) (by kernel_rfl) (by kernel_rfl) rfl (fun _ _ _ h => h) (Or.inl ⟨by kernel_rfl, fun w9 hw => y_move rfl rfl⟩) hHeld ?_
        simp only [Act.put, List.setIfInBounds_toArray, List.set_cons_zero, List.set_cons_succ]
        refine takeD (i := 1) (d := some 11) (v := (.pointer (some ⟨h0, i, none⟩))) rfl (by kernel_rfl) (by kernel_rfl) (by kernel_rfl) rfl (fun _ _ _ h => h) (Or.inl ⟨by kernel_rfl, fun w9 hw => y_ixk rfl rfl rfl HC.out.1⟩) hHeld ?_
        simp only [Act.put, List.setIfInBounds_toArray, List.set_cons_zero, List.set_cons_succ]
        refine takeD (i := 2) (d := some 12) (v := (.int .u8 (x.toNat : Int))) rfl (by kernel_rfl) (by kernel_rfl) (by kernel_rfl) rfl (fun _ _ _ h => h) (Or.inl ⟨by kernel_rfl, fun w9 hw => by rw [hw]; exact y_one rfl (by decide) rfl HC.out.2.1 rfl⟩) hHeld ?_
        simp only [Act.put, List.setIfInBounds_toArray, List.set_cons_zero, List.set_cons_succ]
        refine takeD (i := 3) (d := some 13) (v := (.int .i64 (i : Int))) rfl (by kernel_rfl) (by kernel_rfl) (by kernel_rfl) rfl (fun _ _ _ h => h) (Or.inl ⟨by kernel_rfl, fun w9 hw => y_move rfl rfl⟩) hHeld ?_
        simp only [Act.put, List.setIfInBounds_toArray, List.set_cons_zero, List.set_cons_succ]
        refine takeD (i := 4) (d := some 14) (v := (.pointer (some ⟨(h0 + 1), i, none⟩))) rfl (by kernel_rfl) (by kernel_rfl) (by kernel_rfl) rfl (fun _ _ _ h => h) (Or.inl ⟨by kernel_rfl, fun w9 hw => y_ixk rfl rfl rfl HC.out.1⟩) hHeld ?_
        simp only [Act.put, List.setIfInBounds_toArray, List.set_cons_zero, List.set_cons_succ]
        refine takeD (i := 5) (d := some 15) (v := (.int .u8 (y.toNat : Int))) rfl (by kernel_rfl) (by kernel_rfl) (by kernel_rfl) rfl (fun _ _ _ h => h) (Or.inl ⟨by kernel_rfl, fun w9 hw => by rw [hw]; exact y_one rfl (by decide) rfl HC.out.2.2.1 rfl⟩) hHeld ?_
        simp only [Act.put, List.setIfInBounds_toArray, List.set_cons_zero, List.set_cons_succ]
        refine takeD (i := 6) (d := some 16) (v := (.bool false)) rfl (by kernel_rfl) (by kernel_rfl) (by kernel_rfl) rfl (fun _ _ _ h => h) (Or.inl ⟨by kernel_rfl, fun w9 hw => y_lss8 d1 rfl rfl rfl⟩) hHeld ?_
        simp only [Act.put, List.setIfInBounds_toArray, List.set_cons_zero, List.set_cons_succ]
        refine wpAnyH_done (by kernel_rfl) ?_ _
        go_upto_region 6 with fail
        by_cases e2 : y < x
        · have d2 : decide ((x.toNat : Int) > (y.toNat : Int)) = true := decide_eq_true (HO.out.2.1 e2)
          refine wp_region_held_drew (S := fun w9 => w9 = wr.drew.drew) (by kernel_rfl) rfl (fun hHeld => ?_)
          refine takeD (i := 0) (d := some 17) (v := (.int .i64 (i : Int))) rfl (by kernel_rfl) (by kernel_rfl) (by kernel_rfl) rfl (fun _ _ _ h => h) (Or.inl ⟨by kernel_rfl, fun w9 hw => y_move rfl rfl⟩) hHeld ?_
          simp only [Act.put, List.setIfInBounds_toArray, List.set_cons_zero, List.set_cons_succ]
          refine takeD (i := 1) (d := some 18) (v := (.pointer (some ⟨h0, i, none⟩))) rfl (by kernel_rfl) (by kernel_rfl) (by kernel_rfl) rfl (fun _ _ _ h => h) (Or.inl ⟨by kernel_rfl, fun w9 hw => y_ixk rfl rfl rfl HC.out.1⟩) hHeld ?_
          simp only [Act.put, List.setIfInBounds_toArray, List.set_cons_zero, List.set_cons_succ]
          refine takeD (i := 2) (d := some 19) (v := (.int .u8 (x.toNat : Int))) rfl (by kernel_rfl) (by kernel_rfl) (by kernel_rfl) rfl (fun _ _ _ h => h) (Or.inl ⟨by kernel_rfl, fun w9 hw => by rw [hw]; exact y_one rfl (by decide) rfl HC.out.2.1 rfl⟩) hHeld ?_
          simp only [Act.put, List.setIfInBounds_toArray, List.set_cons_zero, List.set_cons_succ]
          refine takeD (i := 3) (d := some 20) (v := (.int .i64 (i : Int))) rfl (by kernel_rfl) (by kernel_rfl) (by kernel_rfl) rfl (fun _ _ _ h => h) (Or.inl ⟨by kernel_rfl, fun w9 hw => y_move rfl rfl⟩) hHeld ?_
          simp only [Act.put, List.setIfInBounds_toArray, List.set_cons_zero, List.set_cons_succ]
          refine takeD (i := 4) (d := some 21) (v := (.pointer (some ⟨(h0 + 1), i, none⟩))) rfl (by kernel_rfl) (by kernel_rfl) (by kernel_rfl) rfl (fun _ _ _ h => h) (Or.inl ⟨by kernel_rfl, fun w9 hw => y_ixk rfl rfl rfl HC.out.1⟩) hHeld ?_
          simp only [Act.put, List.setIfInBounds_toArray, List.set_cons_zero, List.set_cons_succ]
          refine takeD (i := 5) (d := some 22) (v := (.int .u8 (y.toNat : Int))) rfl (by kernel_rfl) (by kernel_rfl) (by kernel_rfl) rfl (fun _ _ _ h => h) (Or.inl ⟨by kernel_rfl, fun w9 hw => by rw [hw]; exact y_one rfl (by decide) rfl HC.out.2.2.1 rfl⟩) hHeld ?_
          simp only [Act.put, List.setIfInBounds_toArray, List.set_cons_zero, List.set_cons_succ]
          refine takeD (i := 6) (d := some 23) (v := (.bool true)) rfl (by kernel_rfl) (by kernel_rfl) (by kernel_rfl) rfl (fun _ _ _ h => h) (Or.inl ⟨by kernel_rfl, fun w9 hw => y_gtr8 d2 rfl rfl rfl⟩) hHeld ?_
          simp only [Act.put, List.setIfInBounds_toArray, List.set_cons_zero, List.set_cons_succ]
          refine wpAnyH_done (by kernel_rfl) ?_ _
          go_wp2_with fail
          go_ret
          exact ⟨by show _ = _; rw [HI.out.2, HC.out.2.2.2, if_neg e, if_pos e2]; rfl, HA.out.1.and_then HI.out.1.drew.drew⟩
        · have d2 : decide ((x.toNat : Int) > (y.toNat : Int)) = false := decide_eq_false (fun c => e2 (HO.out.2.2 c))
          refine wp_region_held_drew (S := fun w9 => w9 = wr.drew.drew) (by kernel_rfl) rfl (fun hHeld => ?_)
          refine takeD (i := 0) (d := some 17) (v := (.int .i64 (i : Int))) rfl (by kernel_rfl) (by kernel_rfl) (by kernel_rfl) rfl (fun _ _ _ h => h) (Or.inl ⟨by kernel_rfl, fun w9 hw => y_move rfl rfl⟩) hHeld ?_
          simp only [Act.put, List.setIfInBounds_toArray, List.set_cons_zero, List.set_cons_succ]
          refine takeD (i := 1) (d := some 18) (v := (.pointer (some ⟨h0, i, none⟩))) rfl (by kernel_rfl) (by kernel_rfl) (by kernel_rfl) rfl (fun _ _ _ h => h) (Or.inl ⟨by kernel_rfl, fun w9 hw => y_ixk rfl rfl rfl HC.out.1⟩) hHeld ?_
          simp only [Act.put, List.setIfInBounds_toArray, List.set_cons_zero, List.set_cons_succ]
          refine takeD (i := 2) (d := some 19) (v := (.int .u8 (x.toNat : Int))) rfl (by kernel_rfl) (by kernel_rfl) (by kernel_rfl) rfl (fun _ _ _ h => h) (Or.inl ⟨by kernel_rfl, fun w9 hw => by rw [hw]; exact y_one rfl (by decide) rfl HC.out.2.1 rfl⟩) hHeld ?_
          simp only [Act.put, List.setIfInBounds_toArray, List.set_cons_zero, List.set_cons_succ]
          refine takeD (i := 3) (d := some 20) (v := (.int .i64 (i : Int))) rfl (by kernel_rfl) (by kernel_rfl) (by kernel_rfl) rfl (fun _ _ _ h => h) (Or.inl ⟨by kernel_rfl, fun w9 hw => y_move rfl rfl⟩) hHeld ?_
          simp only [Act.put, List.setIfInBounds_toArray, List.set_cons_zero, List.set_cons_succ]
          refine takeD (i := 4) (d := some 21) (v := (.pointer (some ⟨(h0 + 1), i, none⟩))) rfl (by kernel_rfl) (by kernel_rfl) (by kernel_rfl) rfl (fun _ _ _ h => h) (Or.inl ⟨by kernel_rfl, fun w9 hw => y_ixk rfl rfl rfl HC.out.1⟩) hHeld ?_
          simp only [Act.put, List.setIfInBounds_toArray, List.set_cons_zero, List.set_cons_succ]
          refine takeD (i := 5) (d := some 22) (v := (.int .u8 (y.toNat : Int))) rfl (by kernel_rfl) (by kernel_rfl) (by kernel_rfl) rfl (fun _ _ _ h => h) (Or.inl ⟨by kernel_rfl, fun w9 hw => by rw [hw]; exact y_one rfl (by decide) rfl HC.out.2.2.1 rfl⟩) hHeld ?_
          simp only [Act.put, List.setIfInBounds_toArray, List.set_cons_zero, List.set_cons_succ]
          refine takeD (i := 6) (d := some 23) (v := (.bool false)) rfl (by kernel_rfl) (by kernel_rfl) (by kernel_rfl) rfl (fun _ _ _ h => h) (Or.inl ⟨by kernel_rfl, fun w9 hw => y_gtr8 d2 rfl rfl rfl⟩) hHeld ?_
          simp only [Act.put, List.setIfInBounds_toArray, List.set_cons_zero, List.set_cons_succ]
          refine wpAnyH_done (by kernel_rfl) ?_ _
          go_wp2_with fail
          exact ⟨⟨i + 1, HC.out.1, rfl, HI.out.1.drew.drew, by rw [HI.out.2, HC.out.2.2.2, if_neg e, if_neg e2]⟩, by have := HC.out.1; show 32 - ((i : Int) + 1).toNat < 32 - ((i : Int)).toNat; omega⟩
    · obtain rfl : i = 32 := by omega
      have g1 : ¬ ((32 : Nat) : Int) < 32 := by omega
      clear hlt hi
      go_wp2_with fail
      go_ret
      exact ⟨by show _ = _; rw [HI.out.2, List.drop_of_length_le (by rw [a.2]; decide), List.drop_of_length_le (by rw [b.2]; decide)]; rfl, HA.out.1.and_then HI.out.1⟩
end Go.Proofs.Ytknbehjhaaidoaa.IX

/- The document's index: Get, Next. -/
namespace Go.Proofs.Ytknbehjhaaidoaa.IX
open Go.RowKit Go.Shelf Mem HD TB
set_option linter.unusedVariables false
set_option linter.unusedSimpArgs false
section
variable {a : Act} {o : Oper} {w : World}
set_option maxRecDepth 100000 in
theorem y_kv0 (ho : o.op = .build 58 #[]) : (execOp a.eval o).run Try.prog w = .ok (.value (.agg (kvL none).toArray)) w := by
  have h := run_build (P := Try.prog) w 58 #[] (kvL none).toArray (by kernel_rfl)
  unfold execOp
  simp only [ho, List.map_toArray, List.map_nil, Sem.run_bind, h, Result.andThen_ok, Sem.run_pure]
theorem y_lss0 {x : Operand} {n : Int} {d : Bool} (hd : decide (n < 0) = d) (ho : o.op = .binOp .lss 3 x (.const (.int .i64 0)) 3) (hx : a.eval x = .int .i64 n) : (execOp a.eval o).run Try.prog w = .ok (.value (.bool d)) w := y_lss hd ho hx
theorem y_pairkv {x : Operand} {b off : Nat} {p : Key × Ent} (ho : o.op = .load 58 x) (hx : a.eval x = .pointer (some ⟨b, off, none⟩)) (hc : w.rangeAt b off (pairL p)) : (execOp a.eval o).run Try.prog w = .ok (.value (.agg (pairL p).toArray)) w :=
  y_mid ho hx hc Try.underlying58 rfl (keyed_sizeG (pairL_len p))
end
theorem found_at {l : List (Key × Ent)} {k : Key} (hn : NK l) : ∀ {o : Option Nat}, At l k o → ∃ r : Option Ent, TB.Found l k r ∧ (match o with | none => r = none | some i => ∃ e, r = some e ∧ l[i]? = some (k, e))
  | none, h => ⟨none, TB.Found.no fun v c => h (k, v) c rfl, rfl⟩
  | some i, ⟨x, hx, he⟩ => ⟨some x.2, TB.Found.yes hn (by have := List.mem_of_getElem? hx; rw [← he]; exact this), x.2, rfl, by rw [hx, ← he]⟩
set_option maxRecDepth 100000 in
theorem rget_any {w : World} {r : Nat} {v : Value} {l : List (Key × Ent)} (h : RAt w r v l) (hn : NK l) (hl : l.length ≤ 2097152) (k : Key) : Calls Try.prog 63 #[.pointer (some ⟨r, 0, none⟩), .agg k.L.toArray] w fun e w' => (∃ q, e = .returned (gotV q) ∧ TB.Found l k q) ∧ Mod no w w' := by
  have hw := w2_facts w k
  have HA := Lib.hid (And.intro (show RAt (W2 w k) r v l from ⟨h.1.mod hw.1 (fun c => c), h.2.mod hw.1 (fun _ _ c => c)⟩) (And.intro hw (And.intro hn hl)))
  clear h hw hn hl
  go_enter Try.func63, Try.ntmps63
  go_upto_region 1 with fail
  obtain ⟨w2, hw2⟩ : ∃ w2, w2 = W2 w k := ⟨_, rfl⟩
  change Code.wp _ _ _ _ (W2 w k)
  rw [← hw2] at HA ⊢
  clear hw2
  obtain ⟨h0, hh0⟩ : ∃ h0, h0 = w.heap.size := ⟨_, rfl⟩
  have HH := Lib.hid (Nat.le_of_eq hh0.symm)
  rw [← hh0] at HA ⊢
  clear hh0
  refine HD.wl_begin ?_
  refine HD.wl_takeF (d := some 7) (v := (.pointer (some ⟨r, 0, none⟩))) (a' := ⟨List.toArray ((.pointer (some ⟨r, 0, none⟩))::(.agg k.L.toArray)::undef::(.pointer (some ⟨h0, 0, none⟩))::(.pointer (some ⟨(h0 + 1), 0, none⟩))::(.bool false)::undef::(.pointer (some ⟨r, 0, none⟩))::undef::undef::undef::undef::undef::undef::undef::undef::undef::undef::undef::undef::undef::[]), []⟩) (by kernel_rfl) rfl (by kernel_rfl) (y_move rfl rfl) ?_
  refine HD.wl_takeF (d := some 8) (v := (.agg k.L.toArray)) (a' := ⟨List.toArray ((.pointer (some ⟨r, 0, none⟩))::(.agg k.L.toArray)::undef::(.pointer (some ⟨h0, 0, none⟩))::(.pointer (some ⟨(h0 + 1), 0, none⟩))::(.bool false)::undef::(.pointer (some ⟨r, 0, none⟩))::(.agg k.L.toArray)::undef::undef::undef::undef::undef::undef::undef::undef::undef::undef::undef::undef::[]), []⟩) (by kernel_rfl) rfl (by kernel_rfl) (y_key rfl rfl HA.out.2.1.2.1) ?_
  refine HD.wl_callG (d := some 9) (fun v9 => ⟨List.toArray ((.pointer (some ⟨r, 0, none⟩))::(.agg k.L.toArray)::undef::(.pointer (some ⟨h0, 0, none⟩))::(.pointer (some ⟨(h0 + 1), 0, none⟩))::(.bool false)::undef::(.pointer (some ⟨r, 0, none⟩))::(.agg k.L.toArray)::(v9)::undef::undef::undef::undef::undef::undef::undef::undef::undef::undef::undef::[]), []⟩) (by kernel_rfl) rfl (fun _ => by kernel_rfl) fun K hK => ?_
  refine op_c2 (fun _ _ => rfl) rfl rfl rfl (rfind_any HA.out.1 HA.out.2.2.2 k) ?_
  rintro e w3 ⟨o, rfl, hat, hm3⟩
  have HF := Lib.hid (And.intro hat (And.intro hm3 (And.intro (HA.out.1.1.mod hm3 (fun c => c)) (HA.out.1.2.mod hm3 (fun _ _ c => c)))))
  have HB3 := Lib.hid (And.intro (HA.out.2.1.2.2.mod hm3 (fun c => c)) (HA.out.2.1.1.and_then hm3))
  refine ⟨_, rfl, hK _ _ ?_⟩
  clear hK K hat hm3
  refine HD.wl_takeF (d := some 6) (v := (.int .i64 (atV o))) (a' := ⟨List.toArray ((.pointer (some ⟨r, 0, none⟩))::(.agg k.L.toArray)::undef::(.pointer (some ⟨h0, 0, none⟩))::(.pointer (some ⟨(h0 + 1), 0, none⟩))::(.bool false)::(.int .i64 (atV o))::(.pointer (some ⟨r, 0, none⟩))::(.agg k.L.toArray)::(.int .i64 (atV o))::undef::undef::undef::undef::undef::undef::undef::undef::undef::undef::undef::[]), []⟩) (by kernel_rfl) rfl (by kernel_rfl) (y_assign rfl rfl) ?_
  refine HD.wl_done ?_
  have hnear : ∀ b, v.ownBlock = some b → True := fun _ _ => trivial
  cases o with
  | none =>
    have d1 : decide ((-1 : Int) < 0) = true := by decide
    go_upto_region 2 with fail
    refine HD.wl_begin ?_
    refine HD.wl_takeF (d := some 10) (v := (.int .i64 (-1))) (a' := ⟨List.toArray ((.pointer (some ⟨r, 0, none⟩))::(.agg k.L.toArray)::undef::(.pointer (some ⟨h0, 0, none⟩))::(.pointer (some ⟨(h0 + 1), 0, none⟩))::(.bool false)::(.int .i64 (-1))::(.pointer (some ⟨r, 0, none⟩))::(.agg k.L.toArray)::(.int .i64 (-1))::(.int .i64 (-1))::undef::undef::undef::undef::undef::undef::undef::undef::undef::undef::[]), []⟩) (by kernel_rfl) rfl (by kernel_rfl) (y_move rfl rfl) ?_
    refine HD.wl_takeF (d := some 11) (v := (.bool true)) (a' := ⟨List.toArray ((.pointer (some ⟨r, 0, none⟩))::(.agg k.L.toArray)::undef::(.pointer (some ⟨h0, 0, none⟩))::(.pointer (some ⟨(h0 + 1), 0, none⟩))::(.bool false)::(.int .i64 (-1))::(.pointer (some ⟨r, 0, none⟩))::(.agg k.L.toArray)::(.int .i64 (-1))::(.int .i64 (-1))::(.bool true)::undef::undef::undef::undef::undef::undef::undef::undef::undef::[]), []⟩) (by kernel_rfl) rfl (by kernel_rfl) (y_lss0 d1 rfl rfl) ?_
    refine HD.wl_done ?_
    go_upto_region 3 with fail
    refine HD.wl_begin ?_
    refine HD.wl_takeF (d := some 12) (v := (.agg e0.L.toArray)) (a' := ⟨List.toArray ((.pointer (some ⟨r, 0, none⟩))::(.agg k.L.toArray)::undef::(.pointer (some ⟨h0, 0, none⟩))::(.pointer (some ⟨(h0 + 1), 0, none⟩))::(.bool false)::(.int .i64 (-1))::(.pointer (some ⟨r, 0, none⟩))::(.agg k.L.toArray)::(.int .i64 (-1))::(.int .i64 (-1))::(.bool true)::(.agg e0.L.toArray)::undef::undef::undef::undef::undef::undef::undef::undef::[]), []⟩) (by kernel_rfl) rfl (by kernel_rfl) (y_e0 rfl) ?_
    refine wl_entF (a' := ⟨List.toArray ((.pointer (some ⟨r, 0, none⟩))::(.agg k.L.toArray)::undef::(.pointer (some ⟨h0, 0, none⟩))::(.pointer (some ⟨(h0 + 1), 0, none⟩))::(.bool false)::(.int .i64 (-1))::(.pointer (some ⟨r, 0, none⟩))::(.agg k.L.toArray)::(.int .i64 (-1))::(.int .i64 (-1))::(.bool true)::(.agg e0.L.toArray)::undef::undef::undef::undef::undef::undef::undef::undef::[]), []⟩) rfl (h0 + 1) e0 (by kernel_rfl) rfl (by kernel_rfl) rfl rfl HB3.out.1 ?_
    have m5 : Mod no w (World.setCells w3 (h0 + 1) 0 e0.L) := mod_setCells (fun c => by have := HH.out; omega) _ _ _ HB3.out.2
    have r5 : (World.setCells w3 (h0 + 1) 0 e0.L).rangeAt (h0 + 1) 0 e0.L := World.rangeAt_setCells_same _ _ _ _ (blk_there HB3.out.1 0 4 (Nat.le_refl 4))
    have H5 := Lib.hid (And.intro m5 r5)
    clear m5 r5
    refine HD.wl_takeF (d := some 5) (v := (.bool false)) (a' := ⟨List.toArray ((.pointer (some ⟨r, 0, none⟩))::(.agg k.L.toArray)::undef::(.pointer (some ⟨h0, 0, none⟩))::(.pointer (some ⟨(h0 + 1), 0, none⟩))::(.bool false)::(.int .i64 (-1))::(.pointer (some ⟨r, 0, none⟩))::(.agg k.L.toArray)::(.int .i64 (-1))::(.int .i64 (-1))::(.bool true)::(.agg e0.L.toArray)::undef::undef::undef::undef::undef::undef::undef::undef::[]), []⟩) (by kernel_rfl) rfl (by kernel_rfl) (y_assign rfl rfl) ?_
    refine HD.wl_done ?_
    go_wp2_with fail
    exact bodyPost_ret (v := .tuple #[.agg e0.L.toArray, .bool false]) (ret_two (p := 4) (u := 5) (ty := 56) rfl _ _ (h0 + 1) e0.L _ rfl rfl H5.out.2 Try.underlying56 rfl (ent_sizeG _)) rfl ⟨⟨none, rfl, TB.Found.no fun e c => HF.out.1 (k, e) c rfl⟩, H5.out.1⟩
  | some i =>
    obtain ⟨x, hx, hxk⟩ := HF.out.1
    have hi := (List.getElem?_eq_some_iff.1 hx).1
    have d1 : decide ((i : Int) < 0) = false := decide_eq_false (by omega)
    obtain ⟨A, c, rfl, hrd⟩ := HF.out.2.2.2
    obtain ⟨b, o, rfl, hr⟩ := hrd i x hx
    have HC := Lib.hid (And.intro hi (pair_key hr).2)
    clear hr hrd hi
    go_upto_region 2 with fail
    refine HD.wl_begin ?_
    refine HD.wl_takeF (d := some 10) (v := (.int .i64 (i : Int))) (a' := ⟨List.toArray ((.pointer (some ⟨r, 0, none⟩))::(.agg k.L.toArray)::undef::(.pointer (some ⟨h0, 0, none⟩))::(.pointer (some ⟨(h0 + 1), 0, none⟩))::(.bool false)::(.int .i64 (i : Int))::(.pointer (some ⟨r, 0, none⟩))::(.agg k.L.toArray)::(.int .i64 (i : Int))::(.int .i64 (i : Int))::undef::undef::undef::undef::undef::undef::undef::undef::undef::undef::[]), []⟩) (by kernel_rfl) rfl (by kernel_rfl) (y_move rfl rfl) ?_
    refine HD.wl_takeF (d := some 11) (v := (.bool false)) (a' := ⟨List.toArray ((.pointer (some ⟨r, 0, none⟩))::(.agg k.L.toArray)::undef::(.pointer (some ⟨h0, 0, none⟩))::(.pointer (some ⟨(h0 + 1), 0, none⟩))::(.bool false)::(.int .i64 (i : Int))::(.pointer (some ⟨r, 0, none⟩))::(.agg k.L.toArray)::(.int .i64 (i : Int))::(.int .i64 (i : Int))::(.bool false)::undef::undef::undef::undef::undef::undef::undef::undef::undef::[]), []⟩) (by kernel_rfl) rfl (by kernel_rfl) (y_lss0 d1 rfl rfl) ?_
    refine HD.wl_done ?_
    go_upto_region 4 with fail
    refine HD.wl_begin ?_
    refine HD.wl_takeF (d := some 13) (v := (.pointer (some ⟨r, 0, none⟩))) (a' := ⟨List.toArray ((.pointer (some ⟨r, 0, none⟩))::(.agg k.L.toArray)::undef::(.pointer (some ⟨h0, 0, none⟩))::(.pointer (some ⟨(h0 + 1), 0, none⟩))::(.bool false)::(.int .i64 (i : Int))::(.pointer (some ⟨r, 0, none⟩))::(.agg k.L.toArray)::(.int .i64 (i : Int))::(.int .i64 (i : Int))::(.bool false)::undef::(.pointer (some ⟨r, 0, none⟩))::undef::undef::undef::undef::undef::undef::undef::[]), []⟩) (by kernel_rfl) rfl (by kernel_rfl) (y_move rfl rfl) ?_
    refine HD.wl_takeF (d := some 14) (v := (.pointer (some ⟨r, 0, none⟩))) (a' := ⟨List.toArray ((.pointer (some ⟨r, 0, none⟩))::(.agg k.L.toArray)::undef::(.pointer (some ⟨h0, 0, none⟩))::(.pointer (some ⟨(h0 + 1), 0, none⟩))::(.bool false)::(.int .i64 (i : Int))::(.pointer (some ⟨r, 0, none⟩))::(.agg k.L.toArray)::(.int .i64 (i : Int))::(.int .i64 (i : Int))::(.bool false)::undef::(.pointer (some ⟨r, 0, none⟩))::(.pointer (some ⟨r, 0, none⟩))::undef::undef::undef::undef::undef::undef::[]), []⟩) (by kernel_rfl) rfl (by kernel_rfl) (y_nil rfl rfl) ?_
    refine HD.wl_takeF (d := some 15) (v := (.pointer (some ⟨r, 0, none⟩))) (a' := ⟨List.toArray ((.pointer (some ⟨r, 0, none⟩))::(.agg k.L.toArray)::undef::(.pointer (some ⟨h0, 0, none⟩))::(.pointer (some ⟨(h0 + 1), 0, none⟩))::(.bool false)::(.int .i64 (i : Int))::(.pointer (some ⟨r, 0, none⟩))::(.agg k.L.toArray)::(.int .i64 (i : Int))::(.int .i64 (i : Int))::(.bool false)::undef::(.pointer (some ⟨r, 0, none⟩))::(.pointer (some ⟨r, 0, none⟩))::(.pointer (some ⟨r, 0, none⟩))::undef::undef::undef::undef::undef::[]), []⟩) (by kernel_rfl) rfl (by kernel_rfl) (y_fri rfl rfl) ?_
    refine HD.wl_takeF (d := some 16) (v := (.slice (some ⟨b, o, none⟩) l.length c)) (a' := ⟨List.toArray ((.pointer (some ⟨r, 0, none⟩))::(.agg k.L.toArray)::undef::(.pointer (some ⟨h0, 0, none⟩))::(.pointer (some ⟨(h0 + 1), 0, none⟩))::(.bool false)::(.int .i64 (i : Int))::(.pointer (some ⟨r, 0, none⟩))::(.agg k.L.toArray)::(.int .i64 (i : Int))::(.int .i64 (i : Int))::(.bool false)::undef::(.pointer (some ⟨r, 0, none⟩))::(.pointer (some ⟨r, 0, none⟩))::(.pointer (some ⟨r, 0, none⟩))::(.slice (some ⟨b, o, none⟩) l.length c)::undef::undef::undef::undef::[]), []⟩) (by kernel_rfl) rfl (by kernel_rfl) (y_ldkv rfl rfl (HF.out.2.2.1.cell 0)) ?_
    refine HD.wl_takeF (d := some 17) (v := (.int .i64 (i : Int))) (a' := ⟨List.toArray ((.pointer (some ⟨r, 0, none⟩))::(.agg k.L.toArray)::undef::(.pointer (some ⟨h0, 0, none⟩))::(.pointer (some ⟨(h0 + 1), 0, none⟩))::(.bool false)::(.int .i64 (i : Int))::(.pointer (some ⟨r, 0, none⟩))::(.agg k.L.toArray)::(.int .i64 (i : Int))::(.int .i64 (i : Int))::(.bool false)::undef::(.pointer (some ⟨r, 0, none⟩))::(.pointer (some ⟨r, 0, none⟩))::(.pointer (some ⟨r, 0, none⟩))::(.slice (some ⟨b, o, none⟩) l.length c)::(.int .i64 (i : Int))::undef::undef::undef::[]), []⟩) (by kernel_rfl) rfl (by kernel_rfl) (y_move rfl rfl) ?_
    refine HD.wl_takeF (d := some 18) (v := (.pointer (some ⟨b, o + i * 36, none⟩))) (a' := ⟨List.toArray ((.pointer (some ⟨r, 0, none⟩))::(.agg k.L.toArray)::undef::(.pointer (some ⟨h0, 0, none⟩))::(.pointer (some ⟨(h0 + 1), 0, none⟩))::(.bool false)::(.int .i64 (i : Int))::(.pointer (some ⟨r, 0, none⟩))::(.agg k.L.toArray)::(.int .i64 (i : Int))::(.int .i64 (i : Int))::(.bool false)::undef::(.pointer (some ⟨r, 0, none⟩))::(.pointer (some ⟨r, 0, none⟩))::(.pointer (some ⟨r, 0, none⟩))::(.slice (some ⟨b, o, none⟩) l.length c)::(.int .i64 (i : Int))::(.pointer (some ⟨b, o + i * 36, none⟩))::undef::undef::[]), []⟩) (by kernel_rfl) rfl (by kernel_rfl) (y_ixkv rfl rfl rfl HC.out.1) ?_
    refine HD.wl_takeF (d := some 19) (v := (.pointer (some ⟨b, o + i * 36 + 32, none⟩))) (a' := ⟨List.toArray ((.pointer (some ⟨r, 0, none⟩))::(.agg k.L.toArray)::undef::(.pointer (some ⟨h0, 0, none⟩))::(.pointer (some ⟨(h0 + 1), 0, none⟩))::(.bool false)::(.int .i64 (i : Int))::(.pointer (some ⟨r, 0, none⟩))::(.agg k.L.toArray)::(.int .i64 (i : Int))::(.int .i64 (i : Int))::(.bool false)::undef::(.pointer (some ⟨r, 0, none⟩))::(.pointer (some ⟨r, 0, none⟩))::(.pointer (some ⟨r, 0, none⟩))::(.slice (some ⟨b, o, none⟩) l.length c)::(.int .i64 (i : Int))::(.pointer (some ⟨b, o + i * 36, none⟩))::(.pointer (some ⟨b, o + i * 36 + 32, none⟩))::undef::[]), []⟩) (by kernel_rfl) rfl (by kernel_rfl) (y_fk1 rfl rfl) ?_
    refine HD.wl_takeF (d := some 20) (v := (.agg x.2.L.toArray)) (a' := ⟨List.toArray ((.pointer (some ⟨r, 0, none⟩))::(.agg k.L.toArray)::undef::(.pointer (some ⟨h0, 0, none⟩))::(.pointer (some ⟨(h0 + 1), 0, none⟩))::(.bool false)::(.int .i64 (i : Int))::(.pointer (some ⟨r, 0, none⟩))::(.agg k.L.toArray)::(.int .i64 (i : Int))::(.int .i64 (i : Int))::(.bool false)::undef::(.pointer (some ⟨r, 0, none⟩))::(.pointer (some ⟨r, 0, none⟩))::(.pointer (some ⟨r, 0, none⟩))::(.slice (some ⟨b, o, none⟩) l.length c)::(.int .i64 (i : Int))::(.pointer (some ⟨b, o + i * 36, none⟩))::(.pointer (some ⟨b, o + i * 36 + 32, none⟩))::(.agg x.2.L.toArray)::[]), []⟩) (by kernel_rfl) rfl (by kernel_rfl) (y_ent rfl rfl HC.out.2) ?_
    refine wl_entF (a' := ⟨List.toArray ((.pointer (some ⟨r, 0, none⟩))::(.agg k.L.toArray)::undef::(.pointer (some ⟨h0, 0, none⟩))::(.pointer (some ⟨(h0 + 1), 0, none⟩))::(.bool false)::(.int .i64 (i : Int))::(.pointer (some ⟨r, 0, none⟩))::(.agg k.L.toArray)::(.int .i64 (i : Int))::(.int .i64 (i : Int))::(.bool false)::undef::(.pointer (some ⟨r, 0, none⟩))::(.pointer (some ⟨r, 0, none⟩))::(.pointer (some ⟨r, 0, none⟩))::(.slice (some ⟨b, o, none⟩) l.length c)::(.int .i64 (i : Int))::(.pointer (some ⟨b, o + i * 36, none⟩))::(.pointer (some ⟨b, o + i * 36 + 32, none⟩))::(.agg x.2.L.toArray)::[]), []⟩) rfl (h0 + 1) x.2 (by kernel_rfl) rfl (by kernel_rfl) rfl rfl HB3.out.1 ?_
    have m5 : Mod no w (World.setCells w3 (h0 + 1) 0 x.2.L) := mod_setCells (fun c => by have := HH.out; omega) _ _ _ HB3.out.2
    have r5 : (World.setCells w3 (h0 + 1) 0 x.2.L).rangeAt (h0 + 1) 0 x.2.L := World.rangeAt_setCells_same _ _ _ _ (blk_there HB3.out.1 0 4 (Nat.le_refl 4))
    have H5 := Lib.hid (And.intro m5 r5)
    clear m5 r5
    refine HD.wl_takeF (d := some 5) (v := (.bool true)) (a' := ⟨List.toArray ((.pointer (some ⟨r, 0, none⟩))::(.agg k.L.toArray)::undef::(.pointer (some ⟨h0, 0, none⟩))::(.pointer (some ⟨(h0 + 1), 0, none⟩))::(.bool true)::(.int .i64 (i : Int))::(.pointer (some ⟨r, 0, none⟩))::(.agg k.L.toArray)::(.int .i64 (i : Int))::(.int .i64 (i : Int))::(.bool false)::undef::(.pointer (some ⟨r, 0, none⟩))::(.pointer (some ⟨r, 0, none⟩))::(.pointer (some ⟨r, 0, none⟩))::(.slice (some ⟨b, o, none⟩) l.length c)::(.int .i64 (i : Int))::(.pointer (some ⟨b, o + i * 36, none⟩))::(.pointer (some ⟨b, o + i * 36 + 32, none⟩))::(.agg x.2.L.toArray)::[]), []⟩) (by kernel_rfl) rfl (by kernel_rfl) (y_assign rfl rfl) ?_
    refine HD.wl_done ?_
    go_wp2_with fail
    exact bodyPost_ret (v := .tuple #[.agg x.2.L.toArray, .bool true]) (ret_two (p := 4) (u := 5) (ty := 56) rfl _ _ (h0 + 1) x.2.L _ rfl rfl H5.out.2 Try.underlying56 rfl (ent_sizeG _)) rfl ⟨⟨some x.2, rfl, TB.Found.yes HA.out.2.2.1 (by have := List.mem_of_getElem? hx; rw [← hxk]; exact this)⟩, H5.out.1⟩
end Go.Proofs.Ytknbehjhaaidoaa.IX

/- The document's index: Next. -/
namespace Go.Proofs.Ytknbehjhaaidoaa.IX
open Go.RowKit Go.Shelf Mem HD TB
set_option linter.unusedVariables false
set_option linter.unusedSimpArgs false
def K2 (w : World) (k : Key) : World := (w.alloc (.cells k.L.toArray 39)).alloc (.cells (kvL none).toArray 58)
theorem k2_facts (w : World) (k : Key) : Mod no w (K2 w k) ∧ (K2 w k).rangeAt w.heap.size 0 k.L ∧ Blk (K2 w k) (w.heap.size + 1) 58 (kvL none).toArray :=
  ⟨((Mod.refl no w).alloc _).alloc _, blk_range ((Blk.new w 39 k.L.toArray).alloc _), Blk.new_at (w.alloc (.cells k.L.toArray 39)) 58 (kvL none).toArray (by simp)⟩
theorem find_none {l : List (Key × Ent)} {p : Key × Ent → Bool} (h : ∀ x ∈ l, ¬ p x = true) : l.find? p = none := List.find?_eq_none.2 h
theorem find_at {l : List (Key × Ent)} {p : Key × Ent → Bool} {i : Nat} {x : Key × Ent} (h : ∀ y ∈ l.take i, ¬ p y = true) (hx : l[i]? = some x) (hp : p x = true) : l.find? p = some x := by
  have hi := (List.getElem?_eq_some_iff.1 hx).1
  have e : l = l.take i ++ x :: l.drop (i + 1) := by
    have h1 := List.take_append_drop i l
    rw [List.drop_eq_getElem_cons hi, (List.getElem?_eq_some_iff.1 hx).2] at h1
    exact h1.symm
  rw [e, List.find?_append, List.find?_eq_none.2 h]
  simp [hp]
set_option maxRecDepth 100000 in
theorem rnext_any {w : World} {r : Nat} {v : Value} {l : List (Key × Ent)} (h : RAt w r v l) (hl : l.length ≤ 2097152) (k : Key) (any : Bool) : Calls Try.prog 64 #[.pointer (some ⟨r, 0, none⟩), .agg k.L.toArray, .bool any] w fun e w' => (∃ q, e = .returned (.tuple #[.agg (kvL q).toArray, .bool q.isSome]) ∧ q = l.find? fun x => asked any k x.1) ∧ Mod no w w' := by
  have hw := k2_facts w k
  have HA := Lib.hid (And.intro (show RAt (K2 w k) r v l from ⟨h.1.mod hw.1 (fun c => c), h.2.mod hw.1 (fun _ _ c => c)⟩) (And.intro hw hl))
  clear h hw hl
  go_enter Try.func64, Try.ntmps64
  go_upto_region 2 with fail
  obtain ⟨w2, hw2⟩ : ∃ w2, w2 = K2 w k := ⟨_, rfl⟩
  change Code.wp _ _ _ _ (K2 w k)
  rw [← hw2] at HA ⊢
  clear hw2
  obtain ⟨h0, hh0⟩ : ∃ h0, h0 = w.heap.size := ⟨_, rfl⟩
  have HH := Lib.hid (Nat.le_of_eq hh0.symm)
  rw [← hh0] at HA ⊢
  clear hh0
  obtain ⟨A, c, rfl, hrd⟩ := HA.out.1.2
  have HR := Lib.hid hrd
  clear hrd
  go_loopw [8] (fun v w' => ∃ i : Nat, i ≤ l.length ∧ v = .int .i64 (i : Int) ∧ Mod no w2 w' ∧ ∀ x ∈ l.take i, ¬ asked any k x.1 = true) (fun v _ => l.length - (intOf v).toNat)
  case atStart => exact ⟨0, Nat.zero_le _, rfl, Mod.refl _ _, by simp⟩
  case round =>
    obtain ⟨i, hi, rfl, hm, hc⟩ := hrel
    have hbr := HA.out.1.1.mod hm (fun c => c)
    have hres := HA.out.2.1.2.2.mod hm (fun c => c)
    have c0 := hbr.cell 0
    have HI := Lib.hid (And.intro hm (And.intro hc (And.intro hbr (And.intro hres (HA.out.2.1.1.and_then hm)))))
    clear hm hc hbr hres
    by_cases hlt : i < l.length
    · have g1 : (i : Int) < (l.length : Int) := by omega
      obtain ⟨x, hx⟩ : ∃ x, l[i]? = some x := ⟨_, List.getElem?_eq_getElem hlt⟩
      obtain ⟨b, o, rfl, hr⟩ := HR.out i x hx
      have hr := range_mod hr HI.out.1 (fun c => c)
      have HC := Lib.hid (And.intro hlt (And.intro (pair_key hr).1 (And.intro (range_mod HA.out.2.1.2.1 HI.out.1 (fun c => c)) (And.intro hx hr))))
      have HM := Lib.hid (show l.length - ((i : Int) + 1).toNat < l.length - ((i : Int)).toNat by omega)
      have HW := Lib.hid (show wrap64 ((i : Int) + 1) = (i : Int) + 1 from IntWalk.wrap64_in _ (by have := HA.out.2.2; omega))
      clear hlt hi hx hr
      go_upto_region 4 with fail
      clear c0
      cases any with
      | true =>
        have ha : asked true k x.1 = true := rfl
        refine wp_region_held_drew (S := fun _ => True) (by kernel_rfl) trivial (fun hHeld => ?_)
        refine takeD (i := 0) (d := some 18) (v := (.bool true)) rfl (by kernel_rfl) (by kernel_rfl) (by kernel_rfl) rfl (fun _ _ _ h => h) (Or.inl ⟨by kernel_rfl, fun w9 hw => y_move rfl rfl⟩) hHeld ?_
        simp only [Act.put, List.setIfInBounds_toArray, List.set_cons_zero, List.set_cons_succ]
        refine takeD (i := 1) (d := some 19) (v := (.bool true)) rfl (by kernel_rfl) (by kernel_rfl) (by kernel_rfl) rfl (fun _ _ _ h => h) (Or.inl ⟨by kernel_rfl, fun w9 hw => y_move rfl rfl⟩) hHeld ?_
        simp only [Act.put, List.setIfInBounds_toArray, List.set_cons_zero, List.set_cons_succ]
        refine takeD (i := 2) (d := some 20) (v := undef) rfl (by kernel_rfl) (by kernel_rfl) (by kernel_rfl) rfl (fun _ _ _ h => h) (Or.inr ⟨by kernel_rfl, rfl⟩) hHeld ?_
        simp only [Act.put, List.setIfInBounds_toArray, List.set_cons_zero, List.set_cons_succ]
        refine takeD (i := 3) (d := some 21) (v := undef) rfl (by kernel_rfl) (by kernel_rfl) (by kernel_rfl) rfl (fun _ _ _ h => h) (Or.inr ⟨by kernel_rfl, rfl⟩) hHeld ?_
        simp only [Act.put, List.setIfInBounds_toArray, List.set_cons_zero, List.set_cons_succ]
        refine takeD (i := 4) (d := some 22) (v := undef) rfl (by kernel_rfl) (by kernel_rfl) (by kernel_rfl) rfl (fun _ _ _ h => h) (Or.inr ⟨by kernel_rfl, rfl⟩) hHeld ?_
        simp only [Act.put, List.setIfInBounds_toArray, List.set_cons_zero, List.set_cons_succ]
        refine takeD (i := 5) (d := some 23) (v := undef) rfl (by kernel_rfl) (by kernel_rfl) (by kernel_rfl) rfl (fun _ _ _ h => h) (Or.inr ⟨by kernel_rfl, rfl⟩) hHeld ?_
        simp only [Act.put, List.setIfInBounds_toArray, List.set_cons_zero, List.set_cons_succ]
        refine takeD (i := 6) (d := some 24) (v := undef) rfl (by kernel_rfl) (by kernel_rfl) (by kernel_rfl) rfl (fun _ _ _ h => h) (Or.inr ⟨by kernel_rfl, rfl⟩) hHeld ?_
        simp only [Act.put, List.setIfInBounds_toArray, List.set_cons_zero, List.set_cons_succ]
        refine takeD (i := 7) (d := some 25) (v := undef) rfl (by kernel_rfl) (by kernel_rfl) (by kernel_rfl) rfl (fun _ _ _ h => h) (Or.inr ⟨by kernel_rfl, rfl⟩) hHeld ?_
        simp only [Act.put, List.setIfInBounds_toArray, List.set_cons_zero, List.set_cons_succ]
        refine takeD (i := 8) (d := some 26) (v := undef) rfl (by kernel_rfl) (by kernel_rfl) (by kernel_rfl) rfl (fun _ _ _ h => h) (Or.inr ⟨by kernel_rfl, rfl⟩) hHeld ?_
        simp only [Act.put, List.setIfInBounds_toArray, List.set_cons_zero, List.set_cons_succ]
        refine takeD (i := 9) (d := some 27) (v := undef) rfl (by kernel_rfl) (by kernel_rfl) (by kernel_rfl) rfl (fun _ _ _ h => h) (Or.inr ⟨by kernel_rfl, rfl⟩) hHeld ?_
        simp only [Act.put, List.setIfInBounds_toArray, List.set_cons_zero, List.set_cons_succ]
        refine takeD (i := 10) (d := some 28) (v := undef) rfl (by kernel_rfl) (by kernel_rfl) (by kernel_rfl) rfl (fun _ _ _ h => h) (Or.inr ⟨by kernel_rfl, rfl⟩) hHeld ?_
        simp only [Act.put, List.setIfInBounds_toArray, List.set_cons_zero, List.set_cons_succ]
        refine takeD (i := 11) (d := some 29) (v := undef) rfl (by kernel_rfl) (by kernel_rfl) (by kernel_rfl) rfl (fun _ _ _ h => h) (Or.inr ⟨by kernel_rfl, rfl⟩) hHeld ?_
        simp only [Act.put, List.setIfInBounds_toArray, List.set_cons_zero, List.set_cons_succ]
        refine takeD (i := 12) (d := some 30) (v := undef) rfl (by kernel_rfl) (by kernel_rfl) (by kernel_rfl) rfl (fun _ _ _ h => h) (Or.inr ⟨by kernel_rfl, rfl⟩) hHeld ?_
        simp only [Act.put, List.setIfInBounds_toArray, List.set_cons_zero, List.set_cons_succ]
        refine takeD (i := 13) (d := some 31) (v := (.bool true)) rfl (by kernel_rfl) (by kernel_rfl) (by kernel_rfl) rfl (fun _ _ _ h => h) (Or.inl ⟨by kernel_rfl, fun w9 hw => y_pick (b := true) rfl rfl rfl⟩) hHeld ?_
        simp only [Act.put, List.setIfInBounds_toArray, List.set_cons_zero, List.set_cons_succ]
        refine wpAnyH_done (by kernel_rfl) ?_ _
        have HM1 := Lib.hid (show Mod no wr wr.drew from (Mod.refl no wr).drew)
        go_upto_region 5 with fail
        refine HD.wl_begin ?_
        refine HD.wl_takeF (d := some 32) (v := (.pointer (some ⟨r, 0, none⟩))) (by kernel_rfl) rfl rfl (y_move rfl rfl) ?_
        refine HD.wl_takeF (d := some 33) (v := (.pointer (some ⟨r, 0, none⟩))) (by kernel_rfl) rfl rfl (y_nil rfl rfl) ?_
        refine HD.wl_takeF (d := some 34) (v := (.pointer (some ⟨r, 0, none⟩))) (a' := ⟨List.toArray ((.pointer (some ⟨r, 0, none⟩))::(.agg k.L.toArray)::(.bool true)::undef::(.pointer (some ⟨h0, 0, none⟩))::undef::(.pointer (some ⟨(h0 + 1), 0, none⟩))::u7::(.int .i64 (i : Int))::(.int .i64 (i : Int))::(.pointer (some ⟨r, 0, none⟩))::(.pointer (some ⟨r, 0, none⟩))::(.pointer (some ⟨r, 0, none⟩))::(.slice (some ⟨b, o, none⟩) l.length c)::(.int .i64 (l.length : Int))::(.bool true)::u16::u17::(.bool true)::(.bool true)::(undef)::(undef)::(undef)::(undef)::(undef)::(undef)::(undef)::(undef)::(undef)::(undef)::(undef)::(.bool true)::(.pointer (some ⟨r, 0, none⟩))::(.pointer (some ⟨r, 0, none⟩))::(.pointer (some ⟨r, 0, none⟩))::u35::u36::u37::u38::undef::[]), []⟩) (by kernel_rfl) rfl (by kernel_rfl) (y_fri rfl rfl) ?_
        refine HD.wl_takeF (d := some 35) (v := (.slice (some ⟨b, o, none⟩) l.length c)) (by kernel_rfl) rfl rfl (y_ldkv rfl rfl ((HI.out.2.2.1.mod HM1.out (fun c => c)).cell 0)) ?_
        refine HD.wl_takeF (d := some 36) (v := (.int .i64 (i : Int))) (by kernel_rfl) rfl rfl (y_move rfl rfl) ?_
        refine HD.wl_takeF (d := some 37) (v := (.pointer (some ⟨b, o + i * 36, none⟩))) (a' := ⟨List.toArray ((.pointer (some ⟨r, 0, none⟩))::(.agg k.L.toArray)::(.bool true)::undef::(.pointer (some ⟨h0, 0, none⟩))::undef::(.pointer (some ⟨(h0 + 1), 0, none⟩))::u7::(.int .i64 (i : Int))::(.int .i64 (i : Int))::(.pointer (some ⟨r, 0, none⟩))::(.pointer (some ⟨r, 0, none⟩))::(.pointer (some ⟨r, 0, none⟩))::(.slice (some ⟨b, o, none⟩) l.length c)::(.int .i64 (l.length : Int))::(.bool true)::u16::u17::(.bool true)::(.bool true)::(undef)::(undef)::(undef)::(undef)::(undef)::(undef)::(undef)::(undef)::(undef)::(undef)::(undef)::(.bool true)::(.pointer (some ⟨r, 0, none⟩))::(.pointer (some ⟨r, 0, none⟩))::(.pointer (some ⟨r, 0, none⟩))::(.slice (some ⟨b, o, none⟩) l.length c)::(.int .i64 (i : Int))::(.pointer (some ⟨b, o + i * 36, none⟩))::u38::undef::[]), []⟩) (by kernel_rfl) rfl (by kernel_rfl) (y_ixkv rfl rfl rfl HC.out.1) ?_
        refine HD.wl_takeF (d := some 38) (v := (.agg (pairL x).toArray)) (a' := ⟨List.toArray ((.pointer (some ⟨r, 0, none⟩))::(.agg k.L.toArray)::(.bool true)::undef::(.pointer (some ⟨h0, 0, none⟩))::undef::(.pointer (some ⟨(h0 + 1), 0, none⟩))::u7::(.int .i64 (i : Int))::(.int .i64 (i : Int))::(.pointer (some ⟨r, 0, none⟩))::(.pointer (some ⟨r, 0, none⟩))::(.pointer (some ⟨r, 0, none⟩))::(.slice (some ⟨b, o, none⟩) l.length c)::(.int .i64 (l.length : Int))::(.bool true)::u16::u17::(.bool true)::(.bool true)::(undef)::(undef)::(undef)::(undef)::(undef)::(undef)::(undef)::(undef)::(undef)::(undef)::(undef)::(.bool true)::(.pointer (some ⟨r, 0, none⟩))::(.pointer (some ⟨r, 0, none⟩))::(.pointer (some ⟨r, 0, none⟩))::(.slice (some ⟨b, o, none⟩) l.length c)::(.int .i64 (i : Int))::(.pointer (some ⟨b, o + i * 36, none⟩))::(.agg (pairL x).toArray)::undef::[]), []⟩) (by kernel_rfl) rfl (by kernel_rfl) (y_pairkv rfl rfl (range_mod HC.out.2.2.2.2 HM1.out (fun c => c))) ?_
        have hb5 := HI.out.2.2.2.1.mod HM1.out (fun c => c)
        refine wl_kvF (a' := ⟨List.toArray ((.pointer (some ⟨r, 0, none⟩))::(.agg k.L.toArray)::(.bool true)::undef::(.pointer (some ⟨h0, 0, none⟩))::undef::(.pointer (some ⟨(h0 + 1), 0, none⟩))::u7::(.int .i64 (i : Int))::(.int .i64 (i : Int))::(.pointer (some ⟨r, 0, none⟩))::(.pointer (some ⟨r, 0, none⟩))::(.pointer (some ⟨r, 0, none⟩))::(.slice (some ⟨b, o, none⟩) l.length c)::(.int .i64 (l.length : Int))::(.bool true)::u16::u17::(.bool true)::(.bool true)::(undef)::(undef)::(undef)::(undef)::(undef)::(undef)::(undef)::(undef)::(undef)::(undef)::(undef)::(.bool true)::(.pointer (some ⟨r, 0, none⟩))::(.pointer (some ⟨r, 0, none⟩))::(.pointer (some ⟨r, 0, none⟩))::(.slice (some ⟨b, o, none⟩) l.length c)::(.int .i64 (i : Int))::(.pointer (some ⟨b, o + i * 36, none⟩))::(.agg (pairL x).toArray)::undef::[]), []⟩) rfl (h0 + 1) (some x) (by kernel_rfl) rfl (by kernel_rfl) rfl rfl hb5 ?_
        have m5 : Mod no w (World.setCells wr.drew (h0 + 1) 0 (kvL (some x))) := mod_setCells (fun c => by have := HH.out; omega) _ _ _ (HI.out.2.2.2.2.and_then HM1.out)
        have r5 : (World.setCells wr.drew (h0 + 1) 0 (kvL (some x))).rangeAt (h0 + 1) 0 (kvL (some x)) := World.rangeAt_setCells_same _ _ _ _ (blk_there hb5 0 _ (by rw [List.size_toArray, kvL_len, kvL_len]; decide))
        have H5 := Lib.hid (And.intro m5 r5)
        clear m5 r5 hb5
        refine HD.wl_takeF (d := some 7) (v := (.bool true)) (a' := ⟨List.toArray ((.pointer (some ⟨r, 0, none⟩))::(.agg k.L.toArray)::(.bool true)::undef::(.pointer (some ⟨h0, 0, none⟩))::undef::(.pointer (some ⟨(h0 + 1), 0, none⟩))::(.bool true)::(.int .i64 (i : Int))::(.int .i64 (i : Int))::(.pointer (some ⟨r, 0, none⟩))::(.pointer (some ⟨r, 0, none⟩))::(.pointer (some ⟨r, 0, none⟩))::(.slice (some ⟨b, o, none⟩) l.length c)::(.int .i64 (l.length : Int))::(.bool true)::u16::u17::(.bool true)::(.bool true)::(undef)::(undef)::(undef)::(undef)::(undef)::(undef)::(undef)::(undef)::(undef)::(undef)::(undef)::(.bool true)::(.pointer (some ⟨r, 0, none⟩))::(.pointer (some ⟨r, 0, none⟩))::(.pointer (some ⟨r, 0, none⟩))::(.slice (some ⟨b, o, none⟩) l.length c)::(.int .i64 (i : Int))::(.pointer (some ⟨b, o + i * 36, none⟩))::(.agg (pairL x).toArray)::undef::[]), []⟩) (by kernel_rfl) rfl (by kernel_rfl) (y_assign rfl rfl) ?_
        refine HD.wl_done ?_
        go_wp2_with fail
        exact bodyPost_ret (v := .tuple #[.agg (kvL (some x)).toArray, .bool true]) (ret_two (p := 6) (u := 7) (ty := 58) rfl _ _ (h0 + 1) (kvL (some x)) _ rfl rfl H5.out.2 Try.underlying58 rfl (keyed_sizeG (kvL_len (some x)))) rfl ⟨⟨some x, rfl, (find_at HI.out.2.1 HC.out.2.2.2.1 ha).symm⟩, H5.out.1⟩
      | false =>
        by_cases e : Lib.compareBytes x.1.1 k.1 > 0
        · have d1 : decide (Lib.compareBytes x.1.1 k.1 > 0) = true := decide_eq_true e
          have ha : asked false k x.1 = true := by unfold asked; rw [d1]; rfl
          refine wp_region_held_drew (S := fun w9 => Mod no wr w9) (by kernel_rfl) ((Mod.refl no wr).drew) (fun hHeld => ?_)
          refine takeD (i := 0) (d := some 18) (v := (.bool false)) rfl (by kernel_rfl) (by kernel_rfl) (by kernel_rfl) rfl (fun _ _ _ h => h) (Or.inl ⟨by kernel_rfl, fun w9 hw => y_move rfl rfl⟩) hHeld ?_
          simp only [Act.put, List.setIfInBounds_toArray, List.set_cons_zero, List.set_cons_succ]
          refine takeD (i := 1) (d := some 19) (v := (.bool false)) rfl (by kernel_rfl) (by kernel_rfl) (by kernel_rfl) rfl (fun _ _ _ h => h) (Or.inl ⟨by kernel_rfl, fun w9 hw => y_move rfl rfl⟩) hHeld ?_
          simp only [Act.put, List.setIfInBounds_toArray, List.set_cons_zero, List.set_cons_succ]
          refine takeD (i := 2) (d := some 20) (v := (.pointer (some ⟨r, 0, none⟩))) rfl (by kernel_rfl) (by kernel_rfl) (by kernel_rfl) rfl (fun _ _ _ h => h) (Or.inl ⟨by kernel_rfl, fun w9 hw => y_move rfl rfl⟩) hHeld ?_
          simp only [Act.put, List.setIfInBounds_toArray, List.set_cons_zero, List.set_cons_succ]
          refine takeD (i := 3) (d := some 21) (v := (.pointer (some ⟨r, 0, none⟩))) rfl (by kernel_rfl) (by kernel_rfl) (by kernel_rfl) rfl (fun _ _ _ h => h) (Or.inl ⟨by kernel_rfl, fun w9 hw => y_nil rfl rfl⟩) hHeld ?_
          simp only [Act.put, List.setIfInBounds_toArray, List.set_cons_zero, List.set_cons_succ]
          refine takeD (i := 4) (d := some 22) (v := (.pointer (some ⟨r, 0, none⟩))) rfl (by kernel_rfl) (by kernel_rfl) (by kernel_rfl) rfl (fun _ _ _ h => h) (Or.inl ⟨by kernel_rfl, fun w9 hw => y_fri rfl rfl⟩) hHeld ?_
          simp only [Act.put, List.setIfInBounds_toArray, List.set_cons_zero, List.set_cons_succ]
          refine takeD (i := 5) (d := some 23) (v := (.slice (some ⟨b, o, none⟩) l.length c)) rfl (by kernel_rfl) (by kernel_rfl) (by kernel_rfl) rfl (fun _ _ _ h => h) (Or.inl ⟨by kernel_rfl, fun w9 hw => y_ldkv rfl rfl ((HI.out.2.2.1.mod hw (fun c => c)).cell 0)⟩) hHeld ?_
          simp only [Act.put, List.setIfInBounds_toArray, List.set_cons_zero, List.set_cons_succ]
          refine takeD (i := 6) (d := some 24) (v := (.int .i64 (i : Int))) rfl (by kernel_rfl) (by kernel_rfl) (by kernel_rfl) rfl (fun _ _ _ h => h) (Or.inl ⟨by kernel_rfl, fun w9 hw => y_move rfl rfl⟩) hHeld ?_
          simp only [Act.put, List.setIfInBounds_toArray, List.set_cons_zero, List.set_cons_succ]
          refine takeD (i := 7) (d := some 25) (v := (.pointer (some ⟨b, o + i * 36, none⟩))) rfl (by kernel_rfl) (by kernel_rfl) (by kernel_rfl) rfl (fun _ _ _ h => h) (Or.inl ⟨by kernel_rfl, fun w9 hw => y_ixkv rfl rfl rfl HC.out.1⟩) hHeld ?_
          simp only [Act.put, List.setIfInBounds_toArray, List.set_cons_zero, List.set_cons_succ]
          refine takeD (i := 8) (d := some 26) (v := (.pointer (some ⟨b, o + i * 36, none⟩))) rfl (by kernel_rfl) (by kernel_rfl) (by kernel_rfl) rfl (fun _ _ _ h => h) (Or.inl ⟨by kernel_rfl, fun w9 hw => y_fk0 rfl rfl⟩) hHeld ?_
          simp only [Act.put, List.setIfInBounds_toArray, List.set_cons_zero, List.set_cons_succ]
          refine takeD (i := 9) (d := some 27) (v := (.agg x.1.L.toArray)) rfl (by kernel_rfl) (by kernel_rfl) (by kernel_rfl) rfl (fun _ _ _ h => h) (Or.inl ⟨by kernel_rfl, fun w9 hw => y_key rfl rfl (range_mod HC.out.2.1 hw (fun c => c))⟩) hHeld ?_
          simp only [Act.put, List.setIfInBounds_toArray, List.set_cons_zero, List.set_cons_succ]
          refine takeD (i := 10) (d := some 28) (v := (.agg k.L.toArray)) rfl (by kernel_rfl) (by kernel_rfl) (by kernel_rfl) rfl (fun _ _ _ h => h) (Or.inl ⟨by kernel_rfl, fun w9 hw => y_key rfl rfl (range_mod HC.out.2.2.1 hw (fun c => c))⟩) hHeld ?_
          simp only [Act.put, List.setIfInBounds_toArray, List.set_cons_zero, List.set_cons_succ]
          refine readyD (i := 11) (d := some 29) rfl (by kernel_rfl) rfl (by kernel_rfl) fun K hK => ?_
          refine op_c2 (fun _ _ => rfl) rfl rfl rfl (cmp3_any x.1 k _) ?_
          rintro e w9 ⟨rfl, hm9⟩
          have HM1 := Lib.hid (hHeld.and_then hm9)
          refine ⟨_, rfl, hK _ _ (hHeld.and_then hm9) fun hHeld9 => ?_⟩
          clear hK K hHeld
          have hHeld := hHeld9
          clear hHeld9
          simp only [Act.put, List.setIfInBounds_toArray, List.set_cons_zero, List.set_cons_succ]
          refine takeD (i := 12) (d := some 30) (v := (.bool true)) rfl (by kernel_rfl) (by kernel_rfl) (by kernel_rfl) rfl (fun _ _ _ h => h) (Or.inl ⟨by kernel_rfl, fun w9 hw => y_gtr d1 rfl rfl⟩) hHeld ?_
          simp only [Act.put, List.setIfInBounds_toArray, List.set_cons_zero, List.set_cons_succ]
          refine takeD (i := 13) (d := some 31) (v := (.bool true)) rfl (by kernel_rfl) (by kernel_rfl) (by kernel_rfl) rfl (fun _ _ _ h => h) (Or.inl ⟨by kernel_rfl, fun w9 hw => y_pick (b := false) rfl rfl rfl⟩) hHeld ?_
          simp only [Act.put, List.setIfInBounds_toArray, List.set_cons_zero, List.set_cons_succ]
          refine wpAnyH_done (by kernel_rfl) ?_ _
          go_upto_region 5 with fail
          refine HD.wl_begin ?_
          refine HD.wl_takeF (d := some 32) (v := (.pointer (some ⟨r, 0, none⟩))) (by kernel_rfl) rfl rfl (y_move rfl rfl) ?_
          refine HD.wl_takeF (d := some 33) (v := (.pointer (some ⟨r, 0, none⟩))) (by kernel_rfl) rfl rfl (y_nil rfl rfl) ?_
          refine HD.wl_takeF (d := some 34) (v := (.pointer (some ⟨r, 0, none⟩))) (a' := ⟨List.toArray ((.pointer (some ⟨r, 0, none⟩))::(.agg k.L.toArray)::(.bool false)::undef::(.pointer (some ⟨h0, 0, none⟩))::undef::(.pointer (some ⟨(h0 + 1), 0, none⟩))::u7::(.int .i64 (i : Int))::(.int .i64 (i : Int))::(.pointer (some ⟨r, 0, none⟩))::(.pointer (some ⟨r, 0, none⟩))::(.pointer (some ⟨r, 0, none⟩))::(.slice (some ⟨b, o, none⟩) l.length c)::(.int .i64 (l.length : Int))::(.bool true)::u16::u17::(.bool false)::(.bool false)::(.pointer (some ⟨r, 0, none⟩))::(.pointer (some ⟨r, 0, none⟩))::(.pointer (some ⟨r, 0, none⟩))::(.slice (some ⟨b, o, none⟩) l.length c)::(.int .i64 (i : Int))::(.pointer (some ⟨b, o + i * 36, none⟩))::(.pointer (some ⟨b, o + i * 36, none⟩))::(.agg x.1.L.toArray)::(.agg k.L.toArray)::(.int .i64 (Lib.compareBytes x.1.1 k.1))::(.bool true)::(.bool true)::(.pointer (some ⟨r, 0, none⟩))::(.pointer (some ⟨r, 0, none⟩))::(.pointer (some ⟨r, 0, none⟩))::u35::u36::u37::u38::undef::[]), []⟩) (by kernel_rfl) rfl (by kernel_rfl) (y_fri rfl rfl) ?_
          refine HD.wl_takeF (d := some 35) (v := (.slice (some ⟨b, o, none⟩) l.length c)) (by kernel_rfl) rfl rfl (y_ldkv rfl rfl ((HI.out.2.2.1.mod HM1.out (fun c => c)).cell 0)) ?_
          refine HD.wl_takeF (d := some 36) (v := (.int .i64 (i : Int))) (by kernel_rfl) rfl rfl (y_move rfl rfl) ?_
          refine HD.wl_takeF (d := some 37) (v := (.pointer (some ⟨b, o + i * 36, none⟩))) (a' := ⟨List.toArray ((.pointer (some ⟨r, 0, none⟩))::(.agg k.L.toArray)::(.bool false)::undef::(.pointer (some ⟨h0, 0, none⟩))::undef::(.pointer (some ⟨(h0 + 1), 0, none⟩))::u7::(.int .i64 (i : Int))::(.int .i64 (i : Int))::(.pointer (some ⟨r, 0, none⟩))::(.pointer (some ⟨r, 0, none⟩))::(.pointer (some ⟨r, 0, none⟩))::(.slice (some ⟨b, o, none⟩) l.length c)::(.int .i64 (l.length : Int))::(.bool true)::u16::u17::(.bool false)::(.bool false)::(.pointer (some ⟨r, 0, none⟩))::(.pointer (some ⟨r, 0, none⟩))::(.pointer (some ⟨r, 0, none⟩))::(.slice (some ⟨b, o, none⟩) l.length c)::(.int .i64 (i : Int))::(.pointer (some ⟨b, o + i * 36, none⟩))::(.pointer (some ⟨b, o + i * 36, none⟩))::(.agg x.1.L.toArray)::(.agg k.L.toArray)::(.int .i64 (Lib.compareBytes x.1.1 k.1))::(.bool true)::(.bool true)::(.pointer (some ⟨r, 0, none⟩))::(.pointer (some ⟨r, 0, none⟩))::(.pointer (some ⟨r, 0, none⟩))::(.slice (some ⟨b, o, none⟩) l.length c)::(.int .i64 (i : Int))::(.pointer (some ⟨b, o + i * 36, none⟩))::u38::undef::[]), []⟩) (by kernel_rfl) rfl (by kernel_rfl) (y_ixkv rfl rfl rfl HC.out.1) ?_
          refine HD.wl_takeF (d := some 38) (v := (.agg (pairL x).toArray)) (a' := ⟨List.toArray ((.pointer (some ⟨r, 0, none⟩))::(.agg k.L.toArray)::(.bool false)::undef::(.pointer (some ⟨h0, 0, none⟩))::undef::(.pointer (some ⟨(h0 + 1), 0, none⟩))::u7::(.int .i64 (i : Int))::(.int .i64 (i : Int))::(.pointer (some ⟨r, 0, none⟩))::(.pointer (some ⟨r, 0, none⟩))::(.pointer (some ⟨r, 0, none⟩))::(.slice (some ⟨b, o, none⟩) l.length c)::(.int .i64 (l.length : Int))::(.bool true)::u16::u17::(.bool false)::(.bool false)::(.pointer (some ⟨r, 0, none⟩))::(.pointer (some ⟨r, 0, none⟩))::(.pointer (some ⟨r, 0, none⟩))::(.slice (some ⟨b, o, none⟩) l.length c)::(.int .i64 (i : Int))::(.pointer (some ⟨b, o + i * 36, none⟩))::(.pointer (some ⟨b, o + i * 36, none⟩))::(.agg x.1.L.toArray)::(.agg k.L.toArray)::(.int .i64 (Lib.compareBytes x.1.1 k.1))::(.bool true)::(.bool true)::(.pointer (some ⟨r, 0, none⟩))::(.pointer (some ⟨r, 0, none⟩))::(.pointer (some ⟨r, 0, none⟩))::(.slice (some ⟨b, o, none⟩) l.length c)::(.int .i64 (i : Int))::(.pointer (some ⟨b, o + i * 36, none⟩))::(.agg (pairL x).toArray)::undef::[]), []⟩) (by kernel_rfl) rfl (by kernel_rfl) (y_pairkv rfl rfl (range_mod HC.out.2.2.2.2 HM1.out (fun c => c))) ?_
          have hb5 := HI.out.2.2.2.1.mod HM1.out (fun c => c)
          refine wl_kvF (a' := ⟨List.toArray ((.pointer (some ⟨r, 0, none⟩))::(.agg k.L.toArray)::(.bool false)::undef::(.pointer (some ⟨h0, 0, none⟩))::undef::(.pointer (some ⟨(h0 + 1), 0, none⟩))::u7::(.int .i64 (i : Int))::(.int .i64 (i : Int))::(.pointer (some ⟨r, 0, none⟩))::(.pointer (some ⟨r, 0, none⟩))::(.pointer (some ⟨r, 0, none⟩))::(.slice (some ⟨b, o, none⟩) l.length c)::(.int .i64 (l.length : Int))::(.bool true)::u16::u17::(.bool false)::(.bool false)::(.pointer (some ⟨r, 0, none⟩))::(.pointer (some ⟨r, 0, none⟩))::(.pointer (some ⟨r, 0, none⟩))::(.slice (some ⟨b, o, none⟩) l.length c)::(.int .i64 (i : Int))::(.pointer (some ⟨b, o + i * 36, none⟩))::(.pointer (some ⟨b, o + i * 36, none⟩))::(.agg x.1.L.toArray)::(.agg k.L.toArray)::(.int .i64 (Lib.compareBytes x.1.1 k.1))::(.bool true)::(.bool true)::(.pointer (some ⟨r, 0, none⟩))::(.pointer (some ⟨r, 0, none⟩))::(.pointer (some ⟨r, 0, none⟩))::(.slice (some ⟨b, o, none⟩) l.length c)::(.int .i64 (i : Int))::(.pointer (some ⟨b, o + i * 36, none⟩))::(.agg (pairL x).toArray)::undef::[]), []⟩) rfl (h0 + 1) (some x) (by kernel_rfl) rfl (by kernel_rfl) rfl rfl hb5 ?_
          have m5 : Mod no w (World.setCells w9 (h0 + 1) 0 (kvL (some x))) := mod_setCells (fun c => by have := HH.out; omega) _ _ _ (HI.out.2.2.2.2.and_then HM1.out)
          have r5 : (World.setCells w9 (h0 + 1) 0 (kvL (some x))).rangeAt (h0 + 1) 0 (kvL (some x)) := World.rangeAt_setCells_same _ _ _ _ (blk_there hb5 0 _ (by rw [List.size_toArray, kvL_len, kvL_len]; decide))
          have H5 := Lib.hid (And.intro m5 r5)
          clear m5 r5 hb5
          refine HD.wl_takeF (d := some 7) (v := (.bool true)) (a' := ⟨List.toArray ((.pointer (some ⟨r, 0, none⟩))::(.agg k.L.toArray)::(.bool false)::undef::(.pointer (some ⟨h0, 0, none⟩))::undef::(.pointer (some ⟨(h0 + 1), 0, none⟩))::(.bool true)::(.int .i64 (i : Int))::(.int .i64 (i : Int))::(.pointer (some ⟨r, 0, none⟩))::(.pointer (some ⟨r, 0, none⟩))::(.pointer (some ⟨r, 0, none⟩))::(.slice (some ⟨b, o, none⟩) l.length c)::(.int .i64 (l.length : Int))::(.bool true)::u16::u17::(.bool false)::(.bool false)::(.pointer (some ⟨r, 0, none⟩))::(.pointer (some ⟨r, 0, none⟩))::(.pointer (some ⟨r, 0, none⟩))::(.slice (some ⟨b, o, none⟩) l.length c)::(.int .i64 (i : Int))::(.pointer (some ⟨b, o + i * 36, none⟩))::(.pointer (some ⟨b, o + i * 36, none⟩))::(.agg x.1.L.toArray)::(.agg k.L.toArray)::(.int .i64 (Lib.compareBytes x.1.1 k.1))::(.bool true)::(.bool true)::(.pointer (some ⟨r, 0, none⟩))::(.pointer (some ⟨r, 0, none⟩))::(.pointer (some ⟨r, 0, none⟩))::(.slice (some ⟨b, o, none⟩) l.length c)::(.int .i64 (i : Int))::(.pointer (some ⟨b, o + i * 36, none⟩))::(.agg (pairL x).toArray)::undef::[]), []⟩) (by kernel_rfl) rfl (by kernel_rfl) (y_assign rfl rfl) ?_
          refine HD.wl_done ?_
          go_wp2_with fail
          exact bodyPost_ret (v := .tuple #[.agg (kvL (some x)).toArray, .bool true]) (ret_two (p := 6) (u := 7) (ty := 58) rfl _ _ (h0 + 1) (kvL (some x)) _ rfl rfl H5.out.2 Try.underlying58 rfl (keyed_sizeG (kvL_len (some x)))) rfl ⟨⟨some x, rfl, (find_at HI.out.2.1 HC.out.2.2.2.1 ha).symm⟩, H5.out.1⟩
        · have d1 : decide (Lib.compareBytes x.1.1 k.1 > 0) = false := decide_eq_false e
          have ha : asked false k x.1 = false := by unfold asked; rw [d1]; rfl
          refine wp_region_held_drew (S := fun w9 => Mod no wr w9) (by kernel_rfl) ((Mod.refl no wr).drew) (fun hHeld => ?_)
          refine takeD (i := 0) (d := some 18) (v := (.bool false)) rfl (by kernel_rfl) (by kernel_rfl) (by kernel_rfl) rfl (fun _ _ _ h => h) (Or.inl ⟨by kernel_rfl, fun w9 hw => y_move rfl rfl⟩) hHeld ?_
          simp only [Act.put, List.setIfInBounds_toArray, List.set_cons_zero, List.set_cons_succ]
          refine takeD (i := 1) (d := some 19) (v := (.bool false)) rfl (by kernel_rfl) (by kernel_rfl) (by kernel_rfl) rfl (fun _ _ _ h => h) (Or.inl ⟨by kernel_rfl, fun w9 hw => y_move rfl rfl⟩) hHeld ?_
          simp only [Act.put, List.setIfInBounds_toArray, List.set_cons_zero, List.set_cons_succ]
          refine takeD (i := 2) (d := some 20) (v := (.pointer (some ⟨r, 0, none⟩))) rfl (by kernel_rfl) (by kernel_rfl) (by kernel_rfl) rfl (fun _ _ _ h => h) (Or.inl ⟨by kernel_rfl, fun w9 hw => y_move rfl rfl⟩) hHeld ?_
          simp only [Act.put, List.setIfInBounds_toArray, List.set_cons_zero, List.set_cons_succ]
          refine takeD (i := 3) (d := some 21) (v := (.pointer (some ⟨r, 0, none⟩))) rfl (by kernel_rfl) (by kernel_rfl) (by kernel_rfl) rfl (fun _ _ _ h => h) (Or.inl ⟨by kernel_rfl, fun w9 hw => y_nil rfl rfl⟩) hHeld ?_
          simp only [Act.put, List.setIfInBounds_toArray, List.set_cons_zero, List.set_cons_succ]
          refine takeD (i := 4) (d := some 22) (v := (.pointer (some ⟨r, 0, none⟩))) rfl (by kernel_rfl) (by kernel_rfl) (by kernel_rfl) rfl (fun _ _ _ h => h) (Or.inl ⟨by kernel_rfl, fun w9 hw => y_fri rfl rfl⟩) hHeld ?_
          simp only [Act.put, List.setIfInBounds_toArray, List.set_cons_zero, List.set_cons_succ]
          refine takeD (i := 5) (d := some 23) (v := (.slice (some ⟨b, o, none⟩) l.length c)) rfl (by kernel_rfl) (by kernel_rfl) (by kernel_rfl) rfl (fun _ _ _ h => h) (Or.inl ⟨by kernel_rfl, fun w9 hw => y_ldkv rfl rfl ((HI.out.2.2.1.mod hw (fun c => c)).cell 0)⟩) hHeld ?_
          simp only [Act.put, List.setIfInBounds_toArray, List.set_cons_zero, List.set_cons_succ]
          refine takeD (i := 6) (d := some 24) (v := (.int .i64 (i : Int))) rfl (by kernel_rfl) (by kernel_rfl) (by kernel_rfl) rfl (fun _ _ _ h => h) (Or.inl ⟨by kernel_rfl, fun w9 hw => y_move rfl rfl⟩) hHeld ?_
          simp only [Act.put, List.setIfInBounds_toArray, List.set_cons_zero, List.set_cons_succ]
          refine takeD (i := 7) (d := some 25) (v := (.pointer (some ⟨b, o + i * 36, none⟩))) rfl (by kernel_rfl) (by kernel_rfl) (by kernel_rfl) rfl (fun _ _ _ h => h) (Or.inl ⟨by kernel_rfl, fun w9 hw => y_ixkv rfl rfl rfl HC.out.1⟩) hHeld ?_
          simp only [Act.put, List.setIfInBounds_toArray, List.set_cons_zero, List.set_cons_succ]
          refine takeD (i := 8) (d := some 26) (v := (.pointer (some ⟨b, o + i * 36, none⟩))) rfl (by kernel_rfl) (by kernel_rfl) (by kernel_rfl) rfl (fun _ _ _ h => h) (Or.inl ⟨by kernel_rfl, fun w9 hw => y_fk0 rfl rfl⟩) hHeld ?_
          simp only [Act.put, List.setIfInBounds_toArray, List.set_cons_zero, List.set_cons_succ]
          refine takeD (i := 9) (d := some 27) (v := (.agg x.1.L.toArray)) rfl (by kernel_rfl) (by kernel_rfl) (by kernel_rfl) rfl (fun _ _ _ h => h) (Or.inl ⟨by kernel_rfl, fun w9 hw => y_key rfl rfl (range_mod HC.out.2.1 hw (fun c => c))⟩) hHeld ?_
          simp only [Act.put, List.setIfInBounds_toArray, List.set_cons_zero, List.set_cons_succ]
          refine takeD (i := 10) (d := some 28) (v := (.agg k.L.toArray)) rfl (by kernel_rfl) (by kernel_rfl) (by kernel_rfl) rfl (fun _ _ _ h => h) (Or.inl ⟨by kernel_rfl, fun w9 hw => y_key rfl rfl (range_mod HC.out.2.2.1 hw (fun c => c))⟩) hHeld ?_
          simp only [Act.put, List.setIfInBounds_toArray, List.set_cons_zero, List.set_cons_succ]
          refine readyD (i := 11) (d := some 29) rfl (by kernel_rfl) rfl (by kernel_rfl) fun K hK => ?_
          refine op_c2 (fun _ _ => rfl) rfl rfl rfl (cmp3_any x.1 k _) ?_
          rintro e w9 ⟨rfl, hm9⟩
          have HM1 := Lib.hid (hHeld.and_then hm9)
          refine ⟨_, rfl, hK _ _ (hHeld.and_then hm9) fun hHeld9 => ?_⟩
          clear hK K hHeld
          have hHeld := hHeld9
          clear hHeld9
          simp only [Act.put, List.setIfInBounds_toArray, List.set_cons_zero, List.set_cons_succ]
          refine takeD (i := 12) (d := some 30) (v := (.bool false)) rfl (by kernel_rfl) (by kernel_rfl) (by kernel_rfl) rfl (fun _ _ _ h => h) (Or.inl ⟨by kernel_rfl, fun w9 hw => y_gtr d1 rfl rfl⟩) hHeld ?_
          simp only [Act.put, List.setIfInBounds_toArray, List.set_cons_zero, List.set_cons_succ]
          refine takeD (i := 13) (d := some 31) (v := (.bool false)) rfl (by kernel_rfl) (by kernel_rfl) (by kernel_rfl) rfl (fun _ _ _ h => h) (Or.inl ⟨by kernel_rfl, fun w9 hw => y_pick (b := false) rfl rfl rfl⟩) hHeld ?_
          simp only [Act.put, List.setIfInBounds_toArray, List.set_cons_zero, List.set_cons_succ]
          refine wpAnyH_done (by kernel_rfl) ?_ _
          go_wp2_with fail
          exact ⟨⟨i + 1, HC.out.1, by rw [HW.out]; rfl, HI.out.1.and_then HM1.out, fun y hy => by
            rw [List.take_add_one, HC.out.2.2.2.1] at hy
            rcases List.mem_append.1 hy with hy | hy
            · exact HI.out.2.1 y hy
            · simp at hy; rw [hy, ha]; simp⟩, by rw [HW.out]; exact HM.out⟩
    · obtain rfl : i = l.length := by omega
      have g1 : ¬ (l.length : Int) < (l.length : Int) := by omega
      clear hlt hi
      go_upto_region 6 with fail
      refine HD.wl_begin ?_
      refine HD.wl_takeF (d := some 39) (v := (.agg (kvL none).toArray)) (a' := ⟨List.toArray ((.pointer (some ⟨r, 0, none⟩))::(.agg k.L.toArray)::(.bool any)::undef::(.pointer (some ⟨h0, 0, none⟩))::undef::(.pointer (some ⟨(h0 + 1), 0, none⟩))::u7::(.int .i64 (l.length : Int))::(.int .i64 (l.length : Int))::(.pointer (some ⟨r, 0, none⟩))::(.pointer (some ⟨r, 0, none⟩))::(.pointer (some ⟨r, 0, none⟩))::(.slice A l.length c)::(.int .i64 (l.length : Int))::(.bool false)::u16::u17::u18::u19::u20::u21::u22::u23::u24::u25::u26::u27::u28::u29::u30::u31::u32::u33::u34::u35::u36::u37::u38::(.agg (kvL none).toArray)::[]), []⟩) (by kernel_rfl) rfl (by kernel_rfl) (y_kv0 rfl) ?_
      refine wl_kvF (a' := ⟨List.toArray ((.pointer (some ⟨r, 0, none⟩))::(.agg k.L.toArray)::(.bool any)::undef::(.pointer (some ⟨h0, 0, none⟩))::undef::(.pointer (some ⟨(h0 + 1), 0, none⟩))::u7::(.int .i64 (l.length : Int))::(.int .i64 (l.length : Int))::(.pointer (some ⟨r, 0, none⟩))::(.pointer (some ⟨r, 0, none⟩))::(.pointer (some ⟨r, 0, none⟩))::(.slice A l.length c)::(.int .i64 (l.length : Int))::(.bool false)::u16::u17::u18::u19::u20::u21::u22::u23::u24::u25::u26::u27::u28::u29::u30::u31::u32::u33::u34::u35::u36::u37::u38::(.agg (kvL none).toArray)::[]), []⟩) rfl (h0 + 1) none (by kernel_rfl) rfl (by kernel_rfl) rfl rfl HI.out.2.2.2.1 ?_
      have m5 : Mod no w (World.setCells wr (h0 + 1) 0 (kvL none)) := mod_setCells (fun c => by have := HH.out; omega) _ _ _ HI.out.2.2.2.2
      have r5 : (World.setCells wr (h0 + 1) 0 (kvL none)).rangeAt (h0 + 1) 0 (kvL none) := World.rangeAt_setCells_same _ _ _ _ (blk_there HI.out.2.2.2.1 0 _ (by rw [List.size_toArray]; omega))
      have H5 := Lib.hid (And.intro m5 r5)
      clear m5 r5
      refine HD.wl_takeF (d := some 7) (v := (.bool false)) (a' := ⟨List.toArray ((.pointer (some ⟨r, 0, none⟩))::(.agg k.L.toArray)::(.bool any)::undef::(.pointer (some ⟨h0, 0, none⟩))::undef::(.pointer (some ⟨(h0 + 1), 0, none⟩))::(.bool false)::(.int .i64 (l.length : Int))::(.int .i64 (l.length : Int))::(.pointer (some ⟨r, 0, none⟩))::(.pointer (some ⟨r, 0, none⟩))::(.pointer (some ⟨r, 0, none⟩))::(.slice A l.length c)::(.int .i64 (l.length : Int))::(.bool false)::u16::u17::u18::u19::u20::u21::u22::u23::u24::u25::u26::u27::u28::u29::u30::u31::u32::u33::u34::u35::u36::u37::u38::(.agg (kvL none).toArray)::[]), []⟩) (by kernel_rfl) rfl (by kernel_rfl) (y_assign rfl rfl) ?_
      refine HD.wl_done ?_
      go_wp2_with fail
      exact bodyPost_ret (v := .tuple #[.agg (kvL none).toArray, .bool false]) (ret_two (p := 6) (u := 7) (ty := 58) rfl _ _ (h0 + 1) (kvL none) _ rfl rfl H5.out.2 Try.underlying58 rfl (keyed_sizeG (kvL_len none))) rfl (by
        have hf : (l.find? fun x => asked any k x.1) = none := find_none (by have := HI.out.2.1; rw [List.take_length] at this; exact this)
        first
          | exact ⟨⟨none, rfl, hf.symm⟩, H5.out.1⟩
          | exact ⟨by rw [hf]; rfl, H5.out.1⟩)
end Go.Proofs.Ytknbehjhaaidoaa.IX

