/- IndexExact: the texts IxJ of this seat, one behind the other. -/
import Derived.Test.YtknbehjhaaidoaaM11
import Derived.Test.YtknbehjhaaidoaaM03
import Derived.Laws.StructEq
/- An index: Mark, Move. -/
namespace Go.Proofs.Ytknbehjhaaidoaa.IX
open Go.RowKit Mem HD TB
set_option linter.unusedVariables false
set_option linter.unusedSimpArgs false
/-- An entry turned, or not. -/
def Turned (w w' : World) (g : Nat) (R : Nat → Prop) (T : Nat → Tab Key Ent) (P : Nat → Nat) (k : Key) (f : Ent → Option Ent) (e : Ending) : Prop :=
  ∃ r, TB.Found (IL T) k r ∧ ∃ T' Rs', IxAt w' g (ext R w w') T' P Rs' ∧ Mod R w w' ∧ match (r.bind f : Option Ent) with
    | none => e = .returned (.bool false) ∧ (IL T').Perm (IL T)
    | some v' => e = .returned (.bool true) ∧ (IL T').Perm ((k, v') :: less (IL T) k)
def marked (m : Int) (v : Ent) : Option Ent := if v.mark = m then none else some { v with mark := m }
def moved (s o s' o' : Int) (v : Ent) : Option Ent := if v.seg = s ∧ v.off = o then some { v with seg := s', off := o' } else none
theorem key1_facts (w : World) (k : Key) : Mod no w (w.alloc (.cells k.L.toArray 39)) ∧ (w.alloc (.cells k.L.toArray 39)).rangeAt w.heap.size 0 k.L := ⟨(Mod.refl no w).alloc _, blk_range (Blk.new w 39 k.L.toArray)⟩
set_option maxRecDepth 100000 in
theorem ixmark_any {w : World} {g : Nat} {R : Nat → Prop} {T : Nat → Tab Key Ent} {P : Nat → Nat} {Rs : Nat → Nat → Prop} (h : IxAt w g R T P Rs) (hb : ∀ i, i < 16 → (T i).L.length < 1073741824) (k : Key) (m : Int) : Calls Try.prog 68 #[.pointer (some ⟨g, 0, none⟩), .agg k.L.toArray, .int .u32 m] w fun e w' => Turned w w' g R T P k (marked m) e := by
  have hw := key1_facts w k
  have HA := Lib.hid (And.intro (And.intro ((h.small).mod hw.1 (fun _ _ c => c)) hw.2) hw.1)
  obtain ⟨R0, hR0⟩ : ∃ R0, R0 = TB.small R w := ⟨_, rfl⟩
  rw [← hR0] at HA
  have HR0 := Lib.hid hR0
  have HB := Lib.hid hb
  clear h hw hR0 hb
  go_enter Try.func68, Try.ntmps68
  go_upto_region 1 with fail
  obtain ⟨w2, hw2⟩ : ∃ w2, w2 = w.alloc (.cells k.L.toArray 39) := ⟨_, rfl⟩
  rw [← hw2] at HA ⊢
  clear hw2
  obtain ⟨h0, hh0⟩ : ∃ h0, h0 = w.heap.size := ⟨_, rfl⟩
  have HH := Lib.hid hh0
  rw [← hh0] at HA ⊢
  clear hh0
  have HRS := Lib.hid (show ∀ x, R0 x → x < h0 from fun x hx => by rw [HR0.out] at hx; rw [HH.out]; exact hx.2)
  have HNS := Lib.hid (show ∀ x, h0 ≤ x → ¬ Rs (shard k) x from fun x hx c => by have := HRS.out x (HA.out.1.1.sub _ (shard_lt k) x c).1; omega)
  go_upto_region 2 with (first
    | (refine wpList_load_mid rfl 39 (.tmp 4) (by rfl) h0 0 (by rfl) k.L _ (by exact HA.out.1.2) Try.underlying39 rfl (key_sizeG k.len) ?_)
    | (go_at_call 52; refine (ixget_any HA.out.1.1 k).mono ?_; rintro e w3 ⟨⟨r, rfl, hf⟩, hm3⟩; rw [gotV_eq]; have H3 := Lib.hid (And.intro hf hm3); clear hf hm3)
    | (refine wpList_store_mid rfl 56 (.tmp 7) (.tmp 13) (by rfl) w3.heap.size 0 (r.getD e0).L.toArray (by rfl) (by rfl) (by exact blk_there (Blk.new w3 56 e0.L.toArray) 0 4 (Nat.le_refl 4)) (ent_sizeG _) (all_oneCell_toArray (ent_ones _)) ?_))
  obtain ⟨w4, hw4⟩ : ∃ w4, w4 = World.setCells (w3.alloc (.cells #[.int .i64 0, .int .i64 0, .int .i64 0, .int .u32 0] 56)) w3.heap.size 0 (r.getD e0).L.toArray.toList := ⟨_, rfl⟩
  have m34 : Mod no w3 w4 := by rw [hw4]; exact mod_setCells (fun c => by omega) _ _ _ ((Mod.refl no w3).alloc _)
  obtain ⟨h7, hh7⟩ : ∃ h7, h7 = w3.heap.size := ⟨_, rfl⟩
  have b4 : Blk w4 h7 56 (r.getD e0).L.toArray := by rw [hw4, hh7]; exact blk_sets w3.heap.size (r.getD e0).L 0 e0.L _ (Blk.new w3 56 e0.L.toArray) (Nat.le_refl 4)
  have hl7 : h0 < h7 := by have h1 := H3.out.2.size; have h2 := cell_below (HA.out.1.2 0 _ (List.getElem?_eq_getElem (by rw [Key.len]; decide))); rw [hh7]; simp at h2; omega
  rw [← hw4, ← hh7]
  clear hw4 hh7
  have m24 := H3.out.2.and_then m34
  have H4 := Lib.hid (show IxAt w4 g R0 T P Rs ∧ w4.rangeAt h0 0 k.L ∧ Mod no w w4 ∧ h0 < h7 from ⟨HA.out.1.1.mod m24 (fun _ _ c => c), range_mod HA.out.1.2 m24 (fun c => c), HA.out.2.and_then m24, hl7⟩)
  clear m34 m24 hl7
  cases r with
  | none =>
    go_wp2_with fail
    go_ret
    refine ⟨none, H3.out.1, T, Rs, H4.out.1.mono fun x hx => ?_, H4.out.2.2.1.mono (fun _ _ c => c.elim), rfl, .refl _⟩
    rw [HR0.out] at hx; exact .inl hx.1
  | some e =>
    have c3 : w4.cell? ⟨h7, 3, none⟩ = some (.int .u32 e.mark) := b4.cell 3
    have f3 := b4.free 3
    by_cases he : e.mark = m
    · have HE := Lib.hid he
      have hd : (e.mark == m) = true := beq_iff_eq.2 he
      clear he
      go_wp2_with fail
      go_ret
      refine ⟨some e, H3.out.1, T, Rs, H4.out.1.mono fun x hx => ?_, H4.out.2.2.1.mono (fun _ _ c => c.elim), ?_⟩
      · rw [HR0.out] at hx; exact .inl hx.1
      · have e1 : (some e).bind (marked m) = none := by show marked m e = none; unfold marked; rw [if_pos HE.out]
        rw [e1]
        exact ⟨rfl, .refl _⟩
    · have HE := Lib.hid he
      have hd : (e.mark == m) = false := beq_eq_false_iff_ne.2 he
      have HB4 := Lib.hid b4
      clear b4
      go_upto_region 5 with fail
      obtain ⟨w5, hw5⟩ : ∃ w5, w5 = w4.setCell ⟨h7, 3, none⟩ (.int .u32 m) := ⟨_, rfl⟩
      have m45 : Mod (one h7) w4 w5 := by rw [hw5]; exact Mod.set (S := one h7) (p := ⟨h7, 3, none⟩) (Mod.refl _ w4) (fun _ => rfl) _
      obtain ⟨v', hv'⟩ : ∃ v' : Ent, v' = { e with mark := m } := ⟨_, rfl⟩
      have b5 : Blk w5 h7 56 v'.L.toArray := by rw [hw5, hv']; exact HB4.out.put 3 _
      rw [← hw5]
      have H5 := Lib.hid (show IxAt w5 g R0 T P Rs ∧ w5.rangeAt h0 0 k.L ∧ Blk w5 h7 56 v'.L.toArray ∧ Mod no w w5 from ⟨H4.out.1.mod m45 (fun x hx c => by have c : x = h7 := c; have := HRS.out x hx; have := H4.out.2.2.2; omega), range_mod H4.out.2.1 m45 (fun c => by have c : h0 = h7 := c; have := H4.out.2.2.2; omega), b5, H4.out.2.2.1.trans m45 (fun x hx c => by have c : x = h7 := c; have := H4.out.2.2.2; have := HH.out; omega)⟩)
      have HV := Lib.hid hv'
      clear m45 hw5 b5 hv' c3 f3
      refine wp_region_held_drew (S := fun w' => w'.rangeAt h0 0 k.L ∧ Blk w' h7 56 v'.L.toArray) (by kernel_rfl) ⟨H5.out.2.1, H5.out.2.2.1⟩ (fun hHeld => ?_)
      refine takeD (i := 0) (d := some 25) (v := (.pointer (some ⟨g, 0, none⟩))) rfl (by kernel_rfl) (by kernel_rfl) (by kernel_rfl) rfl (fun _ _ _ h => h) (Or.inl ⟨by kernel_rfl, fun w9 hw => y_move rfl rfl⟩) hHeld ?_
      simp only [Act.put, List.setIfInBounds_toArray, List.set_cons_zero, List.set_cons_succ]
      refine takeD (i := 1) (d := some 26) (v := (.agg k.L.toArray)) rfl (by kernel_rfl) (by kernel_rfl) (by kernel_rfl) rfl (fun _ _ _ h => h) (Or.inl ⟨by kernel_rfl, fun w9 hw => y_key rfl rfl hw.1⟩) hHeld ?_
      simp only [Act.put, List.setIfInBounds_toArray, List.set_cons_zero, List.set_cons_succ]
      refine takeD (i := 3) (d := some 28) (v := (.agg k.L.toArray)) rfl (by kernel_rfl) (by kernel_rfl) (by kernel_rfl) rfl (fun _ _ _ h => h) (Or.inl ⟨by kernel_rfl, fun w9 hw => y_key rfl rfl hw.1⟩) hHeld ?_
      simp only [Act.put, List.setIfInBounds_toArray, List.set_cons_zero, List.set_cons_succ]
      refine takeD (i := 4) (d := some 29) (v := (.agg v'.L.toArray)) rfl (by kernel_rfl) (by kernel_rfl) (by kernel_rfl) rfl (fun _ _ _ h => h) (Or.inl ⟨by kernel_rfl, fun w9 hw => y_ent rfl rfl (blk_range hw.2)⟩) hHeld ?_
      simp only [Act.put, List.setIfInBounds_toArray, List.set_cons_zero, List.set_cons_succ]
      refine readyD (i := 2) (d := some 27) rfl (by kernel_rfl) rfl (by kernel_rfl) fun K hK => ?_
      refine op_c2 (fun _ _ => rfl) rfl rfl rfl (of_any H5.out.1.drew k) ?_
      rintro e6 w6 ⟨rfl, hm6⟩
      have H6 := Lib.hid (And.intro (H5.out.1.drew.mod hm6 (fun _ _ c => c)) (show Mod no w w6 from (H5.out.2.2.2.drew).and_then hm6))
      refine ⟨_, rfl, hK _ _ ⟨range_mod hHeld.1 hm6 (fun c => c), hHeld.2.mod hm6 (fun c => c)⟩ fun hHeld9 => ?_⟩
      clear hK K hHeld
      have hHeld := hHeld9
      clear hHeld9
      simp only [Act.put, List.setIfInBounds_toArray, List.set_cons_zero, List.set_cons_succ]
      refine readyD (i := 5) (d := some 30) rfl (by kernel_rfl) rfl (by kernel_rfl) fun K hK => ?_
      refine op_c3 (fun _ _ => rfl) rfl rfl rfl rfl (put_any (H6.out.1.t _ (shard_lt k)) (H6.out.1.wf _ (shard_lt k)) (HB.out _ (shard_lt k)) k v') ?_
      rintro e7 w7 ⟨⟨r7, rfl, hf7⟩, ⟨t', hwf, hp, htt⟩, hm7⟩
      have HX := Lib.hid (And.intro hp (H6.out.1.one (shard_lt k) hm7 hwf (H6.out.1.put_sh hp) htt))
      have HF := Lib.hid (show Mod R w w7 from (H6.out.2.mono (fun _ _ c => c.elim)).and_then (hm7.mono fun x _ c => by have := (H6.out.1.sub _ (shard_lt k) x c).1; rw [HR0.out] at this; exact this.1))
      refine ⟨_, rfl, hK _ _ ⟨range_mod hHeld.1 hm7 (HNS.out _ (Nat.le_refl _)), hHeld.2.mod hm7 (HNS.out _ (Nat.le_of_lt H4.out.2.2.2))⟩ fun hHeld9 => ?_⟩
      clear hK K hHeld
      have hHeld := hHeld9
      clear hHeld9
      simp only [Act.put, List.setIfInBounds_toArray, List.set_cons_zero, List.set_cons_succ]
      refine wpAnyH_done (by kernel_rfl) ?_ _
      go_wp2_with fail
      go_ret
      refine ⟨some e, H3.out.1, _, _, HX.out.2.mono fun x hx => ?_, HF.out, ?_⟩
      · rcases hx with hx | hx
        · rw [HR0.out] at hx; exact .inl hx.1
        · exact .inr ⟨Nat.le_trans H6.out.2.size hx.1, hx.2⟩
      · have e1 : (some e).bind (marked m) = some v' := by show marked m e = some v'; unfold marked; rw [if_neg HE.out, HV.out]
        rw [e1]
        exact ⟨rfl, H6.out.1.putP HX.out.1⟩
section
variable {a : Act} {o : Oper} {w : World}
theorem y_not' {x : Operand} {b : Bool} (ho : o.op = .unOp .not 4 x) (hx : a.eval x = .bool b) : (execOp a.eval o).run Try.prog w = .ok (.value (.bool (!b))) w := by
  generalize a.eval = ev at hx
  unfold execOp
  simp only [ho, hx]
  go_simp
theorem y_pick' {c x y : Operand} {b : Bool} {v : Value} (ho : o.op = .pick c x y) (hc : a.eval c = .bool b) (hx : (if b = true then a.eval x else a.eval y) = v) : (execOp a.eval o).run Try.prog w = .ok (.value v) w := by
  generalize a.eval = ev at hx hc
  unfold execOp
  simp only [ho, hc]
  cases b <;> simp at hx <;> subst hx <;> go_simp
theorem y_neqP {x y : Operand} {s u s' u' : Int} {d : Bool} (hd : decide (s = s' ∧ u = u') = d) (ho : o.op = .binOp .neq 53 x y 53) (hx : a.eval x = .agg #[.int .i64 s, .int .i64 u]) (hy : a.eval y = .agg #[.int .i64 s', .int .i64 u']) : (execOp a.eval o).run Try.prog w = .ok (.value (.bool (!d))) w := by
  subst hd
  generalize a.eval = ev at hx hy
  unfold execOp
  simp only [ho, hx, hy]
  go_simp
  by_cases h : s = s' <;> by_cases h2 : u = u' <;> simp [h, h2]
theorem place_sizeG {C : List Value} (h : C.length = 2) : (Try.prog.info? 53).map (·.size) = some C.length := by
  rw [h]; kernel_rfl
theorem y_place {x : Operand} {b off : Nat} {s u : Int} (ho : o.op = .load 53 x) (hx : a.eval x = .pointer (some ⟨b, off, none⟩)) (hc : w.rangeAt b off [.int .i64 s, .int .i64 u]) : (execOp a.eval o).run Try.prog w = .ok (.value (.agg #[.int .i64 s, .int .i64 u])) w :=
  y_mid ho hx hc Try.underlying53 rfl (place_sizeG rfl)
theorem y_fe0 {x : Operand} {b : Nat} (ho : o.op = .fieldAddr 56 x 0) (hx : a.eval x = .pointer (some ⟨b, 0, none⟩)) : (execOp a.eval o).run Try.prog w = .ok (.value (.pointer (some ⟨b, 0, none⟩))) w := by
  generalize a.eval = ev at hx
  unfold execOp
  simp only [ho, hx]
  go_simp
end
def W3 (w : World) (k : Key) (s o s' o' : Int) : World := ((w.alloc (.cells k.L.toArray 39)).alloc (.cells #[.int .i64 s, .int .i64 o] 53)).alloc (.cells #[.int .i64 s', .int .i64 o'] 53)
theorem w3_facts (w : World) (k : Key) (s o s' o' : Int) : Mod no w (W3 w k s o s' o') ∧ (W3 w k s o s' o').rangeAt w.heap.size 0 k.L ∧ (W3 w k s o s' o').rangeAt (w.heap.size + 1) 0 [.int .i64 s, .int .i64 o] ∧ (W3 w k s o s' o').rangeAt (w.heap.size + 2) 0 [.int .i64 s', .int .i64 o'] :=
  ⟨(((Mod.refl no w).alloc _).alloc _).alloc _, blk_range (((Blk.new w 39 k.L.toArray).alloc _).alloc _), blk_range (cs := [.int .i64 s, .int .i64 o]) ((Blk.new_at (w.alloc (.cells k.L.toArray 39)) 53 _ (by simp)).alloc _), blk_range (cs := [.int .i64 s', .int .i64 o']) (Blk.new_at ((w.alloc (.cells k.L.toArray 39)).alloc (.cells #[.int .i64 s, .int .i64 o] 53)) 53 _ (by simp))⟩
set_option maxRecDepth 100000 in
theorem ixmove_any {w : World} {g : Nat} {R : Nat → Prop} {T : Nat → Tab Key Ent} {P : Nat → Nat} {Rs : Nat → Nat → Prop} (h : IxAt w g R T P Rs) (hb : ∀ i, i < 16 → (T i).L.length < 1073741824) (k : Key) (s o s' o' : Int) : Calls Try.prog 70 #[.pointer (some ⟨g, 0, none⟩), .agg k.L.toArray, .agg #[.int .i64 s, .int .i64 o], .agg #[.int .i64 s', .int .i64 o']] w fun e w' => Turned w w' g R T P k (moved s o s' o') e := by
  have hw := w3_facts w k s o s' o'
  have HA := Lib.hid (And.intro (And.intro ((h.small).mod hw.1 (fun _ _ c => c)) hw.2) hw.1)
  obtain ⟨R0, hR0⟩ : ∃ R0, R0 = TB.small R w := ⟨_, rfl⟩
  rw [← hR0] at HA
  have HR0 := Lib.hid hR0
  have HB := Lib.hid hb
  clear h hw hR0 hb
  go_enter Try.func70, Try.ntmps70
  go_upto_region 1 with fail
  obtain ⟨w2, hw2⟩ : ∃ w2, w2 = W3 w k s o s' o' := ⟨_, rfl⟩
  change Code.wp _ _ _ _ (W3 w k s o s' o')
  rw [← hw2] at HA ⊢
  clear hw2
  obtain ⟨h0, hh0⟩ : ∃ h0, h0 = w.heap.size := ⟨_, rfl⟩
  have HH := Lib.hid hh0
  rw [← hh0] at HA ⊢
  clear hh0
  have HRS := Lib.hid (show ∀ x, R0 x → x < h0 from fun x hx => by rw [HR0.out] at hx; rw [HH.out]; exact hx.2)
  have HNS := Lib.hid (show ∀ x, h0 ≤ x → ¬ Rs (shard k) x from fun x hx c => by have := HRS.out x (HA.out.1.1.sub _ (shard_lt k) x c).1; omega)
  go_upto_region 2 with (first
    | (refine wpList_load_mid rfl 39 (.tmp 5) (by rfl) h0 0 (by rfl) k.L _ (by exact HA.out.1.2.1) Try.underlying39 rfl (key_sizeG k.len) ?_)
    | (go_at_call 52; refine (ixget_any HA.out.1.1 k).mono ?_; rintro e w3 ⟨⟨r, rfl, hf⟩, hm3⟩; rw [gotV_eq]; have H3 := Lib.hid (And.intro hf hm3); clear hf hm3)
    | (refine wpList_store_mid rfl 56 (.tmp 9) (.tmp 15) (by rfl) w3.heap.size 0 (r.getD e0).L.toArray (by rfl) (by rfl) (by exact blk_there (Blk.new w3 56 e0.L.toArray) 0 4 (Nat.le_refl 4)) (ent_sizeG _) (all_oneCell_toArray (ent_ones _)) ?_))
  obtain ⟨w4, hw4⟩ : ∃ w4, w4 = World.setCells (w3.alloc (.cells #[.int .i64 0, .int .i64 0, .int .i64 0, .int .u32 0] 56)) w3.heap.size 0 (r.getD e0).L.toArray.toList := ⟨_, rfl⟩
  have m34 : Mod no w3 w4 := by rw [hw4]; exact mod_setCells (fun c => by omega) _ _ _ ((Mod.refl no w3).alloc _)
  obtain ⟨h9, hh9⟩ : ∃ h9, h9 = w3.heap.size := ⟨_, rfl⟩
  have b4 : Blk w4 h9 56 (r.getD e0).L.toArray := by rw [hw4, hh9]; exact blk_sets w3.heap.size (r.getD e0).L 0 e0.L _ (Blk.new w3 56 e0.L.toArray) (Nat.le_refl 4)
  have hl9 : h0 + 2 < h9 := by have h1 := H3.out.2.size; have h2 := cell_below (HA.out.1.2.2.2 0 _ rfl); rw [hh9]; simp at h2; omega
  rw [← hw4, ← hh9]
  clear hw4 hh9
  have m24 := H3.out.2.and_then m34
  have H4 := Lib.hid (show IxAt w4 g R0 T P Rs ∧ w4.rangeAt h0 0 k.L ∧ Mod no w w4 ∧ h0 + 2 < h9 ∧ w4.rangeAt (h0 + 1) 0 [.int .i64 s, .int .i64 o] ∧ w4.rangeAt (h0 + 2) 0 [.int .i64 s', .int .i64 o'] from ⟨HA.out.1.1.mod m24 (fun _ _ c => c), range_mod HA.out.1.2.1 m24 (fun c => c), HA.out.2.and_then m24, hl9, range_mod HA.out.1.2.2.1 m24 (fun c => c), range_mod HA.out.1.2.2.2 m24 (fun c => c)⟩)
  clear m34 m24 hl9
  cases r with
  | none =>
    go_wp2_with fail
    go_ret
    refine ⟨none, H3.out.1, T, Rs, H4.out.1.mono fun x hx => ?_, H4.out.2.2.1.mono (fun _ _ c => c.elim), rfl, .refl _⟩
    rw [HR0.out] at hx; exact .inl hx.1
  | some e =>
    have HB4 := Lib.hid (show Blk w4 h9 56 e.L.toArray from b4)
    have HPL := Lib.hid (show w4.rangeAt h9 0 [.int .i64 e.seg, .int .i64 e.off] from fun j v hv => by
      have h1 := blk_range (cs := e.L) b4
      refine h1 j v ?_
      match j, hv with
      | 0, hv => exact hv
      | 1, hv => exact hv)
    clear b4
    by_cases he : e.seg = s ∧ e.off = o
    · have HE := Lib.hid he
      have hd : decide (e.seg = s ∧ e.off = o) = true := decide_eq_true he
      clear he
      refine HD.wl_begin ?_
      refine HD.wl_takeF (d := some 17) (v := (.bool true)) (a' := ⟨List.toArray ((.pointer (some ⟨g, 0, none⟩))::(.agg k.L.toArray)::(.agg #[.int .i64 s, .int .i64 o])::(.agg #[.int .i64 s', .int .i64 o'])::undef::(.pointer (some ⟨h0, 0, none⟩))::(.pointer (some ⟨(h0 + 1), 0, none⟩))::(.pointer (some ⟨(h0 + 2), 0, none⟩))::(.bool false)::(.pointer (some ⟨h9, 0, none⟩))::(.bool true)::(.tuple #[.agg e.L.toArray, .bool true])::(.pointer (some ⟨g, 0, none⟩))::(.agg k.L.toArray)::(.tuple #[.agg e.L.toArray, .bool true])::(.agg e.L.toArray)::(.bool true)::(.bool true)::undef::undef::undef::undef::undef::undef::undef::undef::undef::undef::undef::undef::undef::undef::undef::[]), []⟩) (by kernel_rfl) rfl (by kernel_rfl) (y_move rfl rfl) ?_
      refine HD.wl_takeF (d := some 18) (v := (.bool false)) (a' := ⟨List.toArray ((.pointer (some ⟨g, 0, none⟩))::(.agg k.L.toArray)::(.agg #[.int .i64 s, .int .i64 o])::(.agg #[.int .i64 s', .int .i64 o'])::undef::(.pointer (some ⟨h0, 0, none⟩))::(.pointer (some ⟨(h0 + 1), 0, none⟩))::(.pointer (some ⟨(h0 + 2), 0, none⟩))::(.bool false)::(.pointer (some ⟨h9, 0, none⟩))::(.bool true)::(.tuple #[.agg e.L.toArray, .bool true])::(.pointer (some ⟨g, 0, none⟩))::(.agg k.L.toArray)::(.tuple #[.agg e.L.toArray, .bool true])::(.agg e.L.toArray)::(.bool true)::(.bool true)::(.bool false)::undef::undef::undef::undef::undef::undef::undef::undef::undef::undef::undef::undef::undef::undef::[]), []⟩) (by kernel_rfl) rfl (by kernel_rfl) (y_not' (b := true) rfl rfl) ?_
      refine HD.wl_takeF (d := some 19) (v := (.bool false)) (a' := ⟨List.toArray ((.pointer (some ⟨g, 0, none⟩))::(.agg k.L.toArray)::(.agg #[.int .i64 s, .int .i64 o])::(.agg #[.int .i64 s', .int .i64 o'])::undef::(.pointer (some ⟨h0, 0, none⟩))::(.pointer (some ⟨(h0 + 1), 0, none⟩))::(.pointer (some ⟨(h0 + 2), 0, none⟩))::(.bool false)::(.pointer (some ⟨h9, 0, none⟩))::(.bool true)::(.tuple #[.agg e.L.toArray, .bool true])::(.pointer (some ⟨g, 0, none⟩))::(.agg k.L.toArray)::(.tuple #[.agg e.L.toArray, .bool true])::(.agg e.L.toArray)::(.bool true)::(.bool true)::(.bool false)::(.bool false)::undef::undef::undef::undef::undef::undef::undef::undef::undef::undef::undef::undef::undef::[]), []⟩) (by kernel_rfl) rfl (by kernel_rfl) (y_move rfl rfl) ?_
      refine HD.wl_takeF (d := some 20) (v := (.pointer (some ⟨h9, 0, none⟩))) (a' := ⟨List.toArray ((.pointer (some ⟨g, 0, none⟩))::(.agg k.L.toArray)::(.agg #[.int .i64 s, .int .i64 o])::(.agg #[.int .i64 s', .int .i64 o'])::undef::(.pointer (some ⟨h0, 0, none⟩))::(.pointer (some ⟨(h0 + 1), 0, none⟩))::(.pointer (some ⟨(h0 + 2), 0, none⟩))::(.bool false)::(.pointer (some ⟨h9, 0, none⟩))::(.bool true)::(.tuple #[.agg e.L.toArray, .bool true])::(.pointer (some ⟨g, 0, none⟩))::(.agg k.L.toArray)::(.tuple #[.agg e.L.toArray, .bool true])::(.agg e.L.toArray)::(.bool true)::(.bool true)::(.bool false)::(.bool false)::(.pointer (some ⟨h9, 0, none⟩))::undef::undef::undef::undef::undef::undef::undef::undef::undef::undef::undef::undef::[]), []⟩) (by kernel_rfl) rfl (by kernel_rfl) (y_fe0 rfl rfl) ?_
      refine HD.wl_takeF (d := some 21) (v := (.agg #[.int .i64 e.seg, .int .i64 e.off])) (a' := ⟨List.toArray ((.pointer (some ⟨g, 0, none⟩))::(.agg k.L.toArray)::(.agg #[.int .i64 s, .int .i64 o])::(.agg #[.int .i64 s', .int .i64 o'])::undef::(.pointer (some ⟨h0, 0, none⟩))::(.pointer (some ⟨(h0 + 1), 0, none⟩))::(.pointer (some ⟨(h0 + 2), 0, none⟩))::(.bool false)::(.pointer (some ⟨h9, 0, none⟩))::(.bool true)::(.tuple #[.agg e.L.toArray, .bool true])::(.pointer (some ⟨g, 0, none⟩))::(.agg k.L.toArray)::(.tuple #[.agg e.L.toArray, .bool true])::(.agg e.L.toArray)::(.bool true)::(.bool true)::(.bool false)::(.bool false)::(.pointer (some ⟨h9, 0, none⟩))::(.agg #[.int .i64 e.seg, .int .i64 e.off])::undef::undef::undef::undef::undef::undef::undef::undef::undef::undef::undef::[]), []⟩) (by kernel_rfl) rfl (by kernel_rfl) (y_place rfl rfl HPL.out) ?_
      refine HD.wl_takeF (d := some 22) (v := (.agg #[.int .i64 s, .int .i64 o])) (a' := ⟨List.toArray ((.pointer (some ⟨g, 0, none⟩))::(.agg k.L.toArray)::(.agg #[.int .i64 s, .int .i64 o])::(.agg #[.int .i64 s', .int .i64 o'])::undef::(.pointer (some ⟨h0, 0, none⟩))::(.pointer (some ⟨(h0 + 1), 0, none⟩))::(.pointer (some ⟨(h0 + 2), 0, none⟩))::(.bool false)::(.pointer (some ⟨h9, 0, none⟩))::(.bool true)::(.tuple #[.agg e.L.toArray, .bool true])::(.pointer (some ⟨g, 0, none⟩))::(.agg k.L.toArray)::(.tuple #[.agg e.L.toArray, .bool true])::(.agg e.L.toArray)::(.bool true)::(.bool true)::(.bool false)::(.bool false)::(.pointer (some ⟨h9, 0, none⟩))::(.agg #[.int .i64 e.seg, .int .i64 e.off])::(.agg #[.int .i64 s, .int .i64 o])::undef::undef::undef::undef::undef::undef::undef::undef::undef::undef::[]), []⟩) (by kernel_rfl) rfl (by kernel_rfl) (y_place rfl rfl H4.out.2.2.2.2.1) ?_
      refine HD.wl_takeF (d := some 23) (v := (.bool false)) (a' := ⟨List.toArray ((.pointer (some ⟨g, 0, none⟩))::(.agg k.L.toArray)::(.agg #[.int .i64 s, .int .i64 o])::(.agg #[.int .i64 s', .int .i64 o'])::undef::(.pointer (some ⟨h0, 0, none⟩))::(.pointer (some ⟨(h0 + 1), 0, none⟩))::(.pointer (some ⟨(h0 + 2), 0, none⟩))::(.bool false)::(.pointer (some ⟨h9, 0, none⟩))::(.bool true)::(.tuple #[.agg e.L.toArray, .bool true])::(.pointer (some ⟨g, 0, none⟩))::(.agg k.L.toArray)::(.tuple #[.agg e.L.toArray, .bool true])::(.agg e.L.toArray)::(.bool true)::(.bool true)::(.bool false)::(.bool false)::(.pointer (some ⟨h9, 0, none⟩))::(.agg #[.int .i64 e.seg, .int .i64 e.off])::(.agg #[.int .i64 s, .int .i64 o])::(.bool false)::undef::undef::undef::undef::undef::undef::undef::undef::undef::[]), []⟩) (by kernel_rfl) rfl (by kernel_rfl) (y_neqP (d := true) hd rfl rfl rfl) ?_
      refine HD.wl_takeF (d := some 24) (v := (.bool false)) (a' := ⟨List.toArray ((.pointer (some ⟨g, 0, none⟩))::(.agg k.L.toArray)::(.agg #[.int .i64 s, .int .i64 o])::(.agg #[.int .i64 s', .int .i64 o'])::undef::(.pointer (some ⟨h0, 0, none⟩))::(.pointer (some ⟨(h0 + 1), 0, none⟩))::(.pointer (some ⟨(h0 + 2), 0, none⟩))::(.bool false)::(.pointer (some ⟨h9, 0, none⟩))::(.bool true)::(.tuple #[.agg e.L.toArray, .bool true])::(.pointer (some ⟨g, 0, none⟩))::(.agg k.L.toArray)::(.tuple #[.agg e.L.toArray, .bool true])::(.agg e.L.toArray)::(.bool true)::(.bool true)::(.bool false)::(.bool false)::(.pointer (some ⟨h9, 0, none⟩))::(.agg #[.int .i64 e.seg, .int .i64 e.off])::(.agg #[.int .i64 s, .int .i64 o])::(.bool false)::(.bool false)::undef::undef::undef::undef::undef::undef::undef::undef::[]), []⟩) (by kernel_rfl) rfl (by kernel_rfl) (y_pick' (b := false) rfl rfl rfl) ?_
      refine HD.wl_done ?_
      go_upto_region 4 with fail
      refine HD.wl_begin ?_
      refine HD.wl_takeF (d := some 25) (v := (.agg #[.int .i64 s', .int .i64 o'])) (a' := ⟨List.toArray ((.pointer (some ⟨g, 0, none⟩))::(.agg k.L.toArray)::(.agg #[.int .i64 s, .int .i64 o])::(.agg #[.int .i64 s', .int .i64 o'])::undef::(.pointer (some ⟨h0, 0, none⟩))::(.pointer (some ⟨(h0 + 1), 0, none⟩))::(.pointer (some ⟨(h0 + 2), 0, none⟩))::(.bool false)::(.pointer (some ⟨h9, 0, none⟩))::(.bool true)::(.tuple #[.agg e.L.toArray, .bool true])::(.pointer (some ⟨g, 0, none⟩))::(.agg k.L.toArray)::(.tuple #[.agg e.L.toArray, .bool true])::(.agg e.L.toArray)::(.bool true)::(.bool true)::(.bool false)::(.bool false)::(.pointer (some ⟨h9, 0, none⟩))::(.agg #[.int .i64 e.seg, .int .i64 e.off])::(.agg #[.int .i64 s, .int .i64 o])::(.bool false)::(.bool false)::(.agg #[.int .i64 s', .int .i64 o'])::undef::undef::undef::undef::undef::undef::undef::[]), []⟩) (by kernel_rfl) rfl (by kernel_rfl) (y_place rfl rfl H4.out.2.2.2.2.2) ?_
      refine HD.wl_takeF (d := some 26) (v := (.pointer (some ⟨h9, 0, none⟩))) (a' := ⟨List.toArray ((.pointer (some ⟨g, 0, none⟩))::(.agg k.L.toArray)::(.agg #[.int .i64 s, .int .i64 o])::(.agg #[.int .i64 s', .int .i64 o'])::undef::(.pointer (some ⟨h0, 0, none⟩))::(.pointer (some ⟨(h0 + 1), 0, none⟩))::(.pointer (some ⟨(h0 + 2), 0, none⟩))::(.bool false)::(.pointer (some ⟨h9, 0, none⟩))::(.bool true)::(.tuple #[.agg e.L.toArray, .bool true])::(.pointer (some ⟨g, 0, none⟩))::(.agg k.L.toArray)::(.tuple #[.agg e.L.toArray, .bool true])::(.agg e.L.toArray)::(.bool true)::(.bool true)::(.bool false)::(.bool false)::(.pointer (some ⟨h9, 0, none⟩))::(.agg #[.int .i64 e.seg, .int .i64 e.off])::(.agg #[.int .i64 s, .int .i64 o])::(.bool false)::(.bool false)::(.agg #[.int .i64 s', .int .i64 o'])::(.pointer (some ⟨h9, 0, none⟩))::undef::undef::undef::undef::undef::undef::[]), []⟩) (by kernel_rfl) rfl (by kernel_rfl) (y_fe0 rfl rfl) ?_
      refine HD.wl_storeF (a' := ⟨List.toArray ((.pointer (some ⟨g, 0, none⟩))::(.agg k.L.toArray)::(.agg #[.int .i64 s, .int .i64 o])::(.agg #[.int .i64 s', .int .i64 o'])::undef::(.pointer (some ⟨h0, 0, none⟩))::(.pointer (some ⟨(h0 + 1), 0, none⟩))::(.pointer (some ⟨(h0 + 2), 0, none⟩))::(.bool false)::(.pointer (some ⟨h9, 0, none⟩))::(.bool true)::(.tuple #[.agg e.L.toArray, .bool true])::(.pointer (some ⟨g, 0, none⟩))::(.agg k.L.toArray)::(.tuple #[.agg e.L.toArray, .bool true])::(.agg e.L.toArray)::(.bool true)::(.bool true)::(.bool false)::(.bool false)::(.pointer (some ⟨h9, 0, none⟩))::(.agg #[.int .i64 e.seg, .int .i64 e.off])::(.agg #[.int .i64 s, .int .i64 o])::(.bool false)::(.bool false)::(.agg #[.int .i64 s', .int .i64 o'])::(.pointer (some ⟨h9, 0, none⟩))::undef::undef::undef::undef::undef::undef::[]), []⟩) rfl h9 0 #[.int .i64 s', .int .i64 o'] (by kernel_rfl) rfl (by kernel_rfl) rfl rfl (blk_there HB4.out 0 2 (by show 0 + 2 ≤ 4; omega)) (place_sizeG (C := [.int .i64 s', .int .i64 o']) rfl) (by simp [Value.oneCell']) ?_
      obtain ⟨v', hv'⟩ : ∃ v' : Ent, v' = { e with seg := s', off := o' } := ⟨_, rfl⟩
      have b5 : Blk (World.setCells w4 h9 0 [.int .i64 s', .int .i64 o']) h9 56 v'.L.toArray := by rw [hv']; exact blk_sets h9 [.int .i64 s', .int .i64 o'] 0 e.L w4 HB4.out (by show 0 + 2 ≤ 4; omega)
      have m45 : Mod (one h9) w4 (World.setCells w4 h9 0 [.int .i64 s', .int .i64 o']) := mod_setCells (S := one h9) (fun _ => rfl) _ _ _ (Mod.refl _ _)
      obtain ⟨w5, hw5⟩ : ∃ w5, w5 = World.setCells w4 h9 0 [.int .i64 s', .int .i64 o'] := ⟨_, rfl⟩
      change HD.WL _ _ _ _ (World.setCells w4 h9 0 [.int .i64 s', .int .i64 o'])
      rw [← hw5] at b5 m45 ⊢
      have H5 := Lib.hid (show IxAt w5 g R0 T P Rs ∧ w5.rangeAt h0 0 k.L ∧ Blk w5 h9 56 v'.L.toArray ∧ Mod no w w5 from ⟨H4.out.1.mod m45 (fun x hx c => by have c : x = h9 := c; have := HRS.out x hx; have := H4.out.2.2.2.1; omega), range_mod H4.out.2.1 m45 (fun c => by have c : h0 = h9 := c; have := H4.out.2.2.2.1; omega), b5, H4.out.2.2.1.trans m45 (fun x hx c => by have c : x = h9 := c; have := H4.out.2.2.2.1; have := HH.out; omega)⟩)
      have HV := Lib.hid hv'
      clear m45 hw5 b5 hv'
      refine HD.wl_done ?_
      go_upto_region 5 with fail
      refine wp_region_held_drew (S := fun w' => w'.rangeAt h0 0 k.L ∧ Blk w' h9 56 v'.L.toArray) (by kernel_rfl) ⟨H5.out.2.1, H5.out.2.2.1⟩ (fun hHeld => ?_)
      refine takeD (i := 0) (d := some 27) (v := (.pointer (some ⟨g, 0, none⟩))) rfl (by kernel_rfl) (by kernel_rfl) (by kernel_rfl) rfl (fun _ _ _ h => h) (Or.inl ⟨by kernel_rfl, fun w9 hw => y_move rfl rfl⟩) hHeld ?_
      simp only [Act.put, List.setIfInBounds_toArray, List.set_cons_zero, List.set_cons_succ]
      refine takeD (i := 1) (d := some 28) (v := (.agg k.L.toArray)) rfl (by kernel_rfl) (by kernel_rfl) (by kernel_rfl) rfl (fun _ _ _ h => h) (Or.inl ⟨by kernel_rfl, fun w9 hw => y_key rfl rfl hw.1⟩) hHeld ?_
      simp only [Act.put, List.setIfInBounds_toArray, List.set_cons_zero, List.set_cons_succ]
      refine takeD (i := 3) (d := some 30) (v := (.agg k.L.toArray)) rfl (by kernel_rfl) (by kernel_rfl) (by kernel_rfl) rfl (fun _ _ _ h => h) (Or.inl ⟨by kernel_rfl, fun w9 hw => y_key rfl rfl hw.1⟩) hHeld ?_
      simp only [Act.put, List.setIfInBounds_toArray, List.set_cons_zero, List.set_cons_succ]
      refine takeD (i := 4) (d := some 31) (v := (.agg v'.L.toArray)) rfl (by kernel_rfl) (by kernel_rfl) (by kernel_rfl) rfl (fun _ _ _ h => h) (Or.inl ⟨by kernel_rfl, fun w9 hw => y_ent rfl rfl (blk_range hw.2)⟩) hHeld ?_
      simp only [Act.put, List.setIfInBounds_toArray, List.set_cons_zero, List.set_cons_succ]
      refine readyD (i := 2) (d := some 29) rfl (by kernel_rfl) rfl (by kernel_rfl) fun K hK => ?_
      refine op_c2 (fun _ _ => rfl) rfl rfl rfl (of_any H5.out.1.drew k) ?_
      rintro e6 w6 ⟨rfl, hm6⟩
      have H6 := Lib.hid (And.intro (H5.out.1.drew.mod hm6 (fun _ _ c => c)) (show Mod no w w6 from (H5.out.2.2.2.drew).and_then hm6))
      refine ⟨_, rfl, hK _ _ ⟨range_mod hHeld.1 hm6 (fun c => c), hHeld.2.mod hm6 (fun c => c)⟩ fun hHeld9 => ?_⟩
      clear hK K hHeld
      have hHeld := hHeld9
      clear hHeld9
      simp only [Act.put, List.setIfInBounds_toArray, List.set_cons_zero, List.set_cons_succ]
      refine readyD (i := 5) (d := some 32) rfl (by kernel_rfl) rfl (by kernel_rfl) fun K hK => ?_
      refine op_c3 (fun _ _ => rfl) rfl rfl rfl rfl (put_any (H6.out.1.t _ (shard_lt k)) (H6.out.1.wf _ (shard_lt k)) (HB.out _ (shard_lt k)) k v') ?_
      rintro e7 w7 ⟨⟨r7, rfl, hf7⟩, ⟨t', hwf, hp, htt⟩, hm7⟩
      have HX := Lib.hid (And.intro hp (H6.out.1.one (shard_lt k) hm7 hwf (H6.out.1.put_sh hp) htt))
      have HF := Lib.hid (show Mod R w w7 from (H6.out.2.mono (fun _ _ c => c.elim)).and_then (hm7.mono fun x _ c => by have := (H6.out.1.sub _ (shard_lt k) x c).1; rw [HR0.out] at this; exact this.1))
      refine ⟨_, rfl, hK _ _ ⟨range_mod hHeld.1 hm7 (HNS.out _ (Nat.le_refl _)), hHeld.2.mod hm7 (HNS.out _ (by have := H4.out.2.2.2.1; omega))⟩ fun hHeld9 => ?_⟩
      clear hK K hHeld
      have hHeld := hHeld9
      clear hHeld9
      simp only [Act.put, List.setIfInBounds_toArray, List.set_cons_zero, List.set_cons_succ]
      refine wpAnyH_done (by kernel_rfl) ?_ _
      go_wp2_with fail
      go_ret
      refine ⟨some e, H3.out.1, _, _, HX.out.2.mono fun x hx => ?_, HF.out, ?_⟩
      · rcases hx with hx | hx
        · rw [HR0.out] at hx; exact .inl hx.1
        · exact .inr ⟨Nat.le_trans H6.out.2.size hx.1, hx.2⟩
      · have e1 : (some e).bind (moved s o s' o') = some v' := by show moved s o s' o' e = some v'; unfold moved; rw [if_pos HE.out, HV.out]
        rw [e1]
        exact ⟨rfl, H6.out.1.putP HX.out.1⟩
    · have HE := Lib.hid he
      have hd : decide (e.seg = s ∧ e.off = o) = false := decide_eq_false he
      clear he
      refine HD.wl_begin ?_
      refine HD.wl_takeF (d := some 17) (v := (.bool true)) (a' := ⟨List.toArray ((.pointer (some ⟨g, 0, none⟩))::(.agg k.L.toArray)::(.agg #[.int .i64 s, .int .i64 o])::(.agg #[.int .i64 s', .int .i64 o'])::undef::(.pointer (some ⟨h0, 0, none⟩))::(.pointer (some ⟨(h0 + 1), 0, none⟩))::(.pointer (some ⟨(h0 + 2), 0, none⟩))::(.bool false)::(.pointer (some ⟨h9, 0, none⟩))::(.bool true)::(.tuple #[.agg e.L.toArray, .bool true])::(.pointer (some ⟨g, 0, none⟩))::(.agg k.L.toArray)::(.tuple #[.agg e.L.toArray, .bool true])::(.agg e.L.toArray)::(.bool true)::(.bool true)::undef::undef::undef::undef::undef::undef::undef::undef::undef::undef::undef::undef::undef::undef::undef::[]), []⟩) (by kernel_rfl) rfl (by kernel_rfl) (y_move rfl rfl) ?_
      refine HD.wl_takeF (d := some 18) (v := (.bool false)) (a' := ⟨List.toArray ((.pointer (some ⟨g, 0, none⟩))::(.agg k.L.toArray)::(.agg #[.int .i64 s, .int .i64 o])::(.agg #[.int .i64 s', .int .i64 o'])::undef::(.pointer (some ⟨h0, 0, none⟩))::(.pointer (some ⟨(h0 + 1), 0, none⟩))::(.pointer (some ⟨(h0 + 2), 0, none⟩))::(.bool false)::(.pointer (some ⟨h9, 0, none⟩))::(.bool true)::(.tuple #[.agg e.L.toArray, .bool true])::(.pointer (some ⟨g, 0, none⟩))::(.agg k.L.toArray)::(.tuple #[.agg e.L.toArray, .bool true])::(.agg e.L.toArray)::(.bool true)::(.bool true)::(.bool false)::undef::undef::undef::undef::undef::undef::undef::undef::undef::undef::undef::undef::undef::undef::[]), []⟩) (by kernel_rfl) rfl (by kernel_rfl) (y_not' (b := true) rfl rfl) ?_
      refine HD.wl_takeF (d := some 19) (v := (.bool false)) (a' := ⟨List.toArray ((.pointer (some ⟨g, 0, none⟩))::(.agg k.L.toArray)::(.agg #[.int .i64 s, .int .i64 o])::(.agg #[.int .i64 s', .int .i64 o'])::undef::(.pointer (some ⟨h0, 0, none⟩))::(.pointer (some ⟨(h0 + 1), 0, none⟩))::(.pointer (some ⟨(h0 + 2), 0, none⟩))::(.bool false)::(.pointer (some ⟨h9, 0, none⟩))::(.bool true)::(.tuple #[.agg e.L.toArray, .bool true])::(.pointer (some ⟨g, 0, none⟩))::(.agg k.L.toArray)::(.tuple #[.agg e.L.toArray, .bool true])::(.agg e.L.toArray)::(.bool true)::(.bool true)::(.bool false)::(.bool false)::undef::undef::undef::undef::undef::undef::undef::undef::undef::undef::undef::undef::undef::[]), []⟩) (by kernel_rfl) rfl (by kernel_rfl) (y_move rfl rfl) ?_
      refine HD.wl_takeF (d := some 20) (v := (.pointer (some ⟨h9, 0, none⟩))) (a' := ⟨List.toArray ((.pointer (some ⟨g, 0, none⟩))::(.agg k.L.toArray)::(.agg #[.int .i64 s, .int .i64 o])::(.agg #[.int .i64 s', .int .i64 o'])::undef::(.pointer (some ⟨h0, 0, none⟩))::(.pointer (some ⟨(h0 + 1), 0, none⟩))::(.pointer (some ⟨(h0 + 2), 0, none⟩))::(.bool false)::(.pointer (some ⟨h9, 0, none⟩))::(.bool true)::(.tuple #[.agg e.L.toArray, .bool true])::(.pointer (some ⟨g, 0, none⟩))::(.agg k.L.toArray)::(.tuple #[.agg e.L.toArray, .bool true])::(.agg e.L.toArray)::(.bool true)::(.bool true)::(.bool false)::(.bool false)::(.pointer (some ⟨h9, 0, none⟩))::undef::undef::undef::undef::undef::undef::undef::undef::undef::undef::undef::undef::[]), []⟩) (by kernel_rfl) rfl (by kernel_rfl) (y_fe0 rfl rfl) ?_
      refine HD.wl_takeF (d := some 21) (v := (.agg #[.int .i64 e.seg, .int .i64 e.off])) (a' := ⟨List.toArray ((.pointer (some ⟨g, 0, none⟩))::(.agg k.L.toArray)::(.agg #[.int .i64 s, .int .i64 o])::(.agg #[.int .i64 s', .int .i64 o'])::undef::(.pointer (some ⟨h0, 0, none⟩))::(.pointer (some ⟨(h0 + 1), 0, none⟩))::(.pointer (some ⟨(h0 + 2), 0, none⟩))::(.bool false)::(.pointer (some ⟨h9, 0, none⟩))::(.bool true)::(.tuple #[.agg e.L.toArray, .bool true])::(.pointer (some ⟨g, 0, none⟩))::(.agg k.L.toArray)::(.tuple #[.agg e.L.toArray, .bool true])::(.agg e.L.toArray)::(.bool true)::(.bool true)::(.bool false)::(.bool false)::(.pointer (some ⟨h9, 0, none⟩))::(.agg #[.int .i64 e.seg, .int .i64 e.off])::undef::undef::undef::undef::undef::undef::undef::undef::undef::undef::undef::[]), []⟩) (by kernel_rfl) rfl (by kernel_rfl) (y_place rfl rfl HPL.out) ?_
      refine HD.wl_takeF (d := some 22) (v := (.agg #[.int .i64 s, .int .i64 o])) (a' := ⟨List.toArray ((.pointer (some ⟨g, 0, none⟩))::(.agg k.L.toArray)::(.agg #[.int .i64 s, .int .i64 o])::(.agg #[.int .i64 s', .int .i64 o'])::undef::(.pointer (some ⟨h0, 0, none⟩))::(.pointer (some ⟨(h0 + 1), 0, none⟩))::(.pointer (some ⟨(h0 + 2), 0, none⟩))::(.bool false)::(.pointer (some ⟨h9, 0, none⟩))::(.bool true)::(.tuple #[.agg e.L.toArray, .bool true])::(.pointer (some ⟨g, 0, none⟩))::(.agg k.L.toArray)::(.tuple #[.agg e.L.toArray, .bool true])::(.agg e.L.toArray)::(.bool true)::(.bool true)::(.bool false)::(.bool false)::(.pointer (some ⟨h9, 0, none⟩))::(.agg #[.int .i64 e.seg, .int .i64 e.off])::(.agg #[.int .i64 s, .int .i64 o])::undef::undef::undef::undef::undef::undef::undef::undef::undef::undef::[]), []⟩) (by kernel_rfl) rfl (by kernel_rfl) (y_place rfl rfl H4.out.2.2.2.2.1) ?_
      refine HD.wl_takeF (d := some 23) (v := (.bool true)) (a' := ⟨List.toArray ((.pointer (some ⟨g, 0, none⟩))::(.agg k.L.toArray)::(.agg #[.int .i64 s, .int .i64 o])::(.agg #[.int .i64 s', .int .i64 o'])::undef::(.pointer (some ⟨h0, 0, none⟩))::(.pointer (some ⟨(h0 + 1), 0, none⟩))::(.pointer (some ⟨(h0 + 2), 0, none⟩))::(.bool false)::(.pointer (some ⟨h9, 0, none⟩))::(.bool true)::(.tuple #[.agg e.L.toArray, .bool true])::(.pointer (some ⟨g, 0, none⟩))::(.agg k.L.toArray)::(.tuple #[.agg e.L.toArray, .bool true])::(.agg e.L.toArray)::(.bool true)::(.bool true)::(.bool false)::(.bool false)::(.pointer (some ⟨h9, 0, none⟩))::(.agg #[.int .i64 e.seg, .int .i64 e.off])::(.agg #[.int .i64 s, .int .i64 o])::(.bool true)::undef::undef::undef::undef::undef::undef::undef::undef::undef::[]), []⟩) (by kernel_rfl) rfl (by kernel_rfl) (y_neqP (d := false) hd rfl rfl rfl) ?_
      refine HD.wl_takeF (d := some 24) (v := (.bool true)) (a' := ⟨List.toArray ((.pointer (some ⟨g, 0, none⟩))::(.agg k.L.toArray)::(.agg #[.int .i64 s, .int .i64 o])::(.agg #[.int .i64 s', .int .i64 o'])::undef::(.pointer (some ⟨h0, 0, none⟩))::(.pointer (some ⟨(h0 + 1), 0, none⟩))::(.pointer (some ⟨(h0 + 2), 0, none⟩))::(.bool false)::(.pointer (some ⟨h9, 0, none⟩))::(.bool true)::(.tuple #[.agg e.L.toArray, .bool true])::(.pointer (some ⟨g, 0, none⟩))::(.agg k.L.toArray)::(.tuple #[.agg e.L.toArray, .bool true])::(.agg e.L.toArray)::(.bool true)::(.bool true)::(.bool false)::(.bool false)::(.pointer (some ⟨h9, 0, none⟩))::(.agg #[.int .i64 e.seg, .int .i64 e.off])::(.agg #[.int .i64 s, .int .i64 o])::(.bool true)::(.bool true)::undef::undef::undef::undef::undef::undef::undef::undef::[]), []⟩) (by kernel_rfl) rfl (by kernel_rfl) (y_pick' (b := false) rfl rfl rfl) ?_
      refine HD.wl_done ?_
      go_wp2_with fail
      go_ret
      refine ⟨some e, H3.out.1, T, Rs, H4.out.1.mono fun x hx => ?_, H4.out.2.2.1.mono (fun _ _ c => c.elim), ?_⟩
      · rw [HR0.out] at hx; exact .inl hx.1
      · have e1 : (some e).bind (moved s o s' o') = none := by show moved s o s' o' e = none; unfold moved; rw [if_neg HE.out]
        rw [e1]
        exact ⟨rfl, .refl _⟩
end Go.Proofs.Ytknbehjhaaidoaa.IX

