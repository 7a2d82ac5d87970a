/- An arena made: the whole (printed by marknil3.py). -/
import Derived.Test.YtcpflggjolkjgaaGreatDoorMnB
namespace Go.Proofs.YtcpflggjolkjgaaGreatDoor.MN
open Go.RowKit Mem HD
set_option linter.unusedVariables false
set_option linter.unusedSimpArgs false

section
variable {a : Act} {o : Oper} {w w' : World}
theorem y_buildA {x0 x1 x2 x3 : Operand} {s m1 m2 : Value} (ho : o.op = .build 61 #[(0, x0), (1, x1), (2, x2), (3, x3)]) (h0 : a.eval x0 = .agg #[.int .i64 3, .int .i64 64]) (h1 : a.eval x1 = s) (h2 : a.eval x2 = m1) (h3 : a.eval x3 = m2) (hs : ∃ A n c, s = .slice A n c) (hm1 : ∃ r, m1 = .map r) (hm2 : ∃ r, m2 = .map r) : (execOp a.eval o).run Tryz.prog w = .ok (.value (.agg #[.int .i64 3, .int .i64 64, s, m1, m2])) w := by
  obtain ⟨A, n, c, rfl⟩ := hs
  obtain ⟨r1, rfl⟩ := hm1
  obtain ⟨r2, rfl⟩ := hm2
  generalize a.eval = ev at h0 h1 h2 h3
  unfold execOp
  simp only [ho, h0, h1, h2, h3]
  go_simp
theorem op_box {K : Act → World → Prop} {Q : Exit → Act → World → Prop} {x : Operand} {cs : Array Value} (ho : o.op = .box 61 x) (hx : a.eval x = .agg cs) (hK : K (a.put o.dst (.pointer (some ⟨w.heap.size, 0, none⟩))) (w.alloc (.cells cs 61))) : Oper.wp Tryz.prog o a w K Q := by
  refine op_yield (w' := w.alloc (.cells cs 61)) (v := .pointer (some ⟨w.heap.size, 0, none⟩)) ?_ hK
  generalize a.eval = ev at hx
  unfold execOp
  simp only [ho, hx]
  go_simp
end
set_option maxRecDepth 100000 in
set_option maxHeartbeats 1000000 in
theorem empty_m {w : World} : Calls Tryz.prog 11 #[.agg #[.int .i64 3, .int .i64 64]] w fun e w' => ∃ ar sg, e = .returned (.pointer (some ⟨ar, 0, none⟩)) ∧ ArAt w' ar sg ∧ w.heap.size ≤ sg ∧ Mod no w w' := by
  have hbc : Blk (w.alloc (.cells #[.int .i64 3, .int .i64 64] 30)) w.heap.size 30 #[.int .i64 3, .int .i64 64] := Blk.new w 30 _
  have hm0 : Mod no w (w.alloc (.cells #[.int .i64 3, .int .i64 64] 30)) := (Mod.refl no w).alloc _
  go_enter Tryz.func11, Tryz.ntmps11
  show Code.wp Tryz.prog (Code.seq (sL empC) (Code.seq (sL e1C) e2C)) _ _ _
  refine wp_seq_k fun K0 hK0 => ?_
  have HK0 := Lib.hid hK0
  clear hK0
  conv => arg 2; whnf
  go_wp2_with fail
  refine HK0.out _ _ ?_
  clear HK0
  generalize w.alloc (.cells #[.int .i64 3, .int .i64 64] 30) = w0 at *
  refine wp_seq_k fun K0 hK0 => ?_
  have HK0 := Lib.hid hK0
  clear hK0
  conv => arg 2; whnf
  refine wp_only ?_
  refine wp_region_held_drew (S := fun w' => Blk w' w.heap.size 30 #[.int .i64 3, .int .i64 64] ∧ Mod no w w') (by kernel_rfl) ⟨hbc.drew, hm0.drew⟩ (fun hHeld => ?_)
  clear hbc hm0
  refine takeD (i := 0) (d := some 5) (v := (.agg #[.int .i64 3, .int .i64 64])) rfl (by kernel_rfl) (by kernel_rfl) (by kernel_rfl) rfl (fun _ _ _ h => h) (Or.inl ⟨by kernel_rfl, fun w9 hw => y_conf (cs := [.int .i64 3, .int .i64 64]) rfl rfl (fun j u hu => by rw [hw.1.cell, Nat.zero_add]; simpa using hu) rfl⟩) hHeld ?_
  simp only [Act.put, List.setIfInBounds_toArray, List.set_cons_zero, List.set_cons_succ]
  refine takeD (i := 1) (d := some 6) (v := (.pointer (some ⟨w.heap.size, 0, none⟩))) rfl (by kernel_rfl) (by kernel_rfl) (by kernel_rfl) rfl (fun _ _ _ h => h) (Or.inl ⟨by kernel_rfl, fun w9 hw => y_fld (j := 0) (o' := 0) rfl rfl (by decide)⟩) hHeld ?_
  simp only [Act.put, List.setIfInBounds_toArray, List.set_cons_zero, List.set_cons_succ]
  refine takeD (i := 2) (d := some 7) (v := (.int .i64 3)) rfl (by kernel_rfl) (by kernel_rfl) (by kernel_rfl) rfl (fun _ _ _ h => h) (Or.inl ⟨by kernel_rfl, fun w9 hw => y_load rfl (.inl rfl) rfl (by rw [hw.1.cell]; rfl) rfl⟩) hHeld ?_
  simp only [Act.put, List.setIfInBounds_toArray, List.set_cons_zero, List.set_cons_succ]
  refine wpAnyH_ready (rs := [3, 4, 5]) (by kernel_rfl) (by simp) (aOne (i := 3) (d := some 8) rfl rfl (by kernel_rfl) (fun K hK => ?_) (aOne (i := 4) (d := some 9) rfl rfl (by kernel_rfl) (fun K hK => ?_) (aOne (i := 5) (d := some 10) rfl rfl (by kernel_rfl) (fun K hK => ?_) AllReadyH.nil)))
  · refine op_make (n := 3) rfl rfl rfl Tryz.underlying58 seg_info (by decide) (by decide) fun cs w1 hb1 hl m1 => ?_
    have hs := hb1
    have hsz : w.heap.size ≤ w0.drew.heap.size := (hHeld.2).size
    refine hK _ _ ⟨hHeld.1.mod m1 (fun c => c), hHeld.2.and_then m1⟩ fun hHeld' => ?_
    clear hK K hHeld
    have hHeld := hHeld'
    clear hHeld'
    simp only [Act.put, List.setIfInBounds_toArray, List.set_cons_zero, List.set_cons_succ]
    refine wpAnyH_ready (rs := [4, 5]) (by kernel_rfl) (by simp) (aOne (i := 4) (d := some 9) rfl rfl (by kernel_rfl) (fun K hK => ?_) (aOne (i := 5) (d := some 10) rfl rfl (by kernel_rfl) (fun K hK => ?_) AllReadyH.nil))
    · refine op_map rfl ?_
      have m2 : Mod no w1 (w1.alloc (.map #[] 0)) := (Mod.refl no _).alloc _
      have hs := hs.mod m2 (fun c => c)
      refine hK _ _ ⟨hHeld.1.mod m2 (fun c => c), hHeld.2.and_then m2⟩ fun hHeld' => ?_
      clear hK K hHeld
      have hHeld := hHeld'
      clear hHeld'
      obtain ⟨w2, hw2⟩ : ∃ x, x = w1.alloc (.map #[] 0) := ⟨_, rfl⟩
      rw [← hw2] at hHeld ⊢
      try rw [← hw2] at hs
      simp only [Act.put, List.setIfInBounds_toArray, List.set_cons_zero, List.set_cons_succ]
      refine readyD (i := 5) (d := some 10) rfl (by kernel_rfl) rfl (by kernel_rfl) fun K hK => ?_
      refine op_map rfl ?_
      have m3 : Mod no w2 (w2.alloc (.map #[] 0)) := (Mod.refl no _).alloc _
      have hs := hs.mod m3 (fun c => c)
      refine hK _ _ ⟨hHeld.1.mod m3 (fun c => c), hHeld.2.and_then m3⟩ fun hHeld' => ?_
      clear hK K hHeld
      have hHeld := hHeld'
      clear hHeld'
      obtain ⟨w3, hw3⟩ : ∃ x, x = w2.alloc (.map #[] 0) := ⟨_, rfl⟩
      rw [← hw3] at hHeld ⊢
      try rw [← hw3] at hs
      simp only [Act.put, List.setIfInBounds_toArray, List.set_cons_zero, List.set_cons_succ]
      refine takeD (i := 6) (d := some 11) (v := .agg #[.int .i64 3, .int .i64 64, .slice (some ⟨w0.drew.heap.size, 0, none⟩) 3 3, .map (some w1.heap.size), .map (some w2.heap.size)]) rfl (by kernel_rfl) (by kernel_rfl) (by kernel_rfl) rfl (fun _ _ _ h => h) (Or.inl ⟨by kernel_rfl, fun w9 hw => y_buildA rfl rfl rfl rfl rfl ⟨_, _, _, rfl⟩ ⟨_, rfl⟩ ⟨_, rfl⟩⟩) hHeld ?_
      simp only [Act.put, List.setIfInBounds_toArray, List.set_cons_zero, List.set_cons_succ]
      refine readyD (i := 7) (d := some 12) rfl (by kernel_rfl) rfl (by kernel_rfl) fun K hK => ?_
      refine op_box rfl rfl ?_
      have ma : Mod no w3 (w3.alloc (.cells #[.int .i64 3, .int .i64 64, .slice (some ⟨w0.drew.heap.size, 0, none⟩) 3 3, .map (some w1.heap.size), .map (some w2.heap.size)] 61)) := (Mod.refl no _).alloc _
      have hA : ArAt (w3.alloc (.cells #[.int .i64 3, .int .i64 64, .slice (some ⟨w0.drew.heap.size, 0, none⟩) 3 3, .map (some w1.heap.size), .map (some w2.heap.size)] 61)) w3.heap.size w0.drew.heap.size := ⟨⟨_, _, Blk.new w3 61 _⟩, cs, hs.mod ma (fun c => c), by rw [hl]⟩
      refine hK _ _ ⟨hHeld.1.mod ma (fun c => c), hHeld.2.and_then ma⟩ fun hHeld' => ?_
      clear hK K hHeld
      have hHeld := hHeld'
      clear hHeld'
      simp only [Act.put, List.setIfInBounds_toArray, List.set_cons_zero, List.set_cons_succ]
      refine takeD (i := 8) (d := some 3) (v := .pointer (some ⟨w3.heap.size, 0, none⟩)) rfl (by kernel_rfl) (by kernel_rfl) (by kernel_rfl) rfl (fun _ _ _ h => h) (Or.inl ⟨by kernel_rfl, fun w9 hw => y_assign rfl rfl⟩) hHeld ?_
      simp only [Act.put, List.setIfInBounds_toArray, List.set_cons_zero, List.set_cons_succ]
      refine wpAnyH_done (by kernel_rfl) ?_ _
      refine ret_out ?_
      refine HK0.out _ _ (e2_any hHeld.2 hHeld.1 hA hsz _ _ _ _ _ _ _ _ _ _ _ _ _ _ _ _ _ _ _ _ _ _ _ _ _ _ _ _ _ _ _ _ ?_)
      intro u2 u4 u13 u14 u15 u16 u17 u18 u19 u20 u21 u22 u23 u24 u25 u26 u27 u28 u29 u30 u31 u32 w' h M A
      subst h
      go_ret
      exact ⟨_, _, rfl, A, hsz, M⟩
    · refine op_map rfl ?_
      have m4 : Mod no w1 (w1.alloc (.map #[] 0)) := (Mod.refl no _).alloc _
      have hs := hs.mod m4 (fun c => c)
      refine hK _ _ ⟨hHeld.1.mod m4 (fun c => c), hHeld.2.and_then m4⟩ fun hHeld' => ?_
      clear hK K hHeld
      have hHeld := hHeld'
      clear hHeld'
      obtain ⟨w4, hw4⟩ : ∃ x, x = w1.alloc (.map #[] 0) := ⟨_, rfl⟩
      rw [← hw4] at hHeld ⊢
      try rw [← hw4] at hs
      simp only [Act.put, List.setIfInBounds_toArray, List.set_cons_zero, List.set_cons_succ]
      refine readyD (i := 4) (d := some 9) rfl (by kernel_rfl) rfl (by kernel_rfl) fun K hK => ?_
      refine op_map rfl ?_
      have m5 : Mod no w4 (w4.alloc (.map #[] 0)) := (Mod.refl no _).alloc _
      have hs := hs.mod m5 (fun c => c)
      refine hK _ _ ⟨hHeld.1.mod m5 (fun c => c), hHeld.2.and_then m5⟩ fun hHeld' => ?_
      clear hK K hHeld
      have hHeld := hHeld'
      clear hHeld'
      obtain ⟨w5, hw5⟩ : ∃ x, x = w4.alloc (.map #[] 0) := ⟨_, rfl⟩
      rw [← hw5] at hHeld ⊢
      try rw [← hw5] at hs
      simp only [Act.put, List.setIfInBounds_toArray, List.set_cons_zero, List.set_cons_succ]
      refine takeD (i := 6) (d := some 11) (v := .agg #[.int .i64 3, .int .i64 64, .slice (some ⟨w0.drew.heap.size, 0, none⟩) 3 3, .map (some w4.heap.size), .map (some w1.heap.size)]) rfl (by kernel_rfl) (by kernel_rfl) (by kernel_rfl) rfl (fun _ _ _ h => h) (Or.inl ⟨by kernel_rfl, fun w9 hw => y_buildA rfl rfl rfl rfl rfl ⟨_, _, _, rfl⟩ ⟨_, rfl⟩ ⟨_, rfl⟩⟩) hHeld ?_
      simp only [Act.put, List.setIfInBounds_toArray, List.set_cons_zero, List.set_cons_succ]
      refine readyD (i := 7) (d := some 12) rfl (by kernel_rfl) rfl (by kernel_rfl) fun K hK => ?_
      refine op_box rfl rfl ?_
      have ma : Mod no w5 (w5.alloc (.cells #[.int .i64 3, .int .i64 64, .slice (some ⟨w0.drew.heap.size, 0, none⟩) 3 3, .map (some w4.heap.size), .map (some w1.heap.size)] 61)) := (Mod.refl no _).alloc _
      have hA : ArAt (w5.alloc (.cells #[.int .i64 3, .int .i64 64, .slice (some ⟨w0.drew.heap.size, 0, none⟩) 3 3, .map (some w4.heap.size), .map (some w1.heap.size)] 61)) w5.heap.size w0.drew.heap.size := ⟨⟨_, _, Blk.new w5 61 _⟩, cs, hs.mod ma (fun c => c), by rw [hl]⟩
      refine hK _ _ ⟨hHeld.1.mod ma (fun c => c), hHeld.2.and_then ma⟩ fun hHeld' => ?_
      clear hK K hHeld
      have hHeld := hHeld'
      clear hHeld'
      simp only [Act.put, List.setIfInBounds_toArray, List.set_cons_zero, List.set_cons_succ]
      refine takeD (i := 8) (d := some 3) (v := .pointer (some ⟨w5.heap.size, 0, none⟩)) rfl (by kernel_rfl) (by kernel_rfl) (by kernel_rfl) rfl (fun _ _ _ h => h) (Or.inl ⟨by kernel_rfl, fun w9 hw => y_assign rfl rfl⟩) hHeld ?_
      simp only [Act.put, List.setIfInBounds_toArray, List.set_cons_zero, List.set_cons_succ]
      refine wpAnyH_done (by kernel_rfl) ?_ _
      refine ret_out ?_
      refine HK0.out _ _ (e2_any hHeld.2 hHeld.1 hA hsz _ _ _ _ _ _ _ _ _ _ _ _ _ _ _ _ _ _ _ _ _ _ _ _ _ _ _ _ _ _ _ _ ?_)
      intro u2 u4 u13 u14 u15 u16 u17 u18 u19 u20 u21 u22 u23 u24 u25 u26 u27 u28 u29 u30 u31 u32 w' h M A
      subst h
      go_ret
      exact ⟨_, _, rfl, A, hsz, M⟩
  · refine op_map rfl ?_
    have m6 : Mod no w0.drew (w0.drew.alloc (.map #[] 0)) := (Mod.refl no _).alloc _
    refine hK _ _ ⟨hHeld.1.mod m6 (fun c => c), hHeld.2.and_then m6⟩ fun hHeld' => ?_
    clear hK K hHeld
    have hHeld := hHeld'
    clear hHeld'
    obtain ⟨w6, hw6⟩ : ∃ x, x = w0.drew.alloc (.map #[] 0) := ⟨_, rfl⟩
    rw [← hw6] at hHeld ⊢
    try rw [← hw6] at hs
    simp only [Act.put, List.setIfInBounds_toArray, List.set_cons_zero, List.set_cons_succ]
    refine wpAnyH_ready (rs := [3, 5]) (by kernel_rfl) (by simp) (aOne (i := 3) (d := some 8) rfl rfl (by kernel_rfl) (fun K hK => ?_) (aOne (i := 5) (d := some 10) rfl rfl (by kernel_rfl) (fun K hK => ?_) AllReadyH.nil))
    · refine op_make (n := 3) rfl rfl rfl Tryz.underlying58 seg_info (by decide) (by decide) fun cs w7 hb7 hl m7 => ?_
      have hs := hb7
      have hsz : w.heap.size ≤ w6.heap.size := (hHeld.2).size
      refine hK _ _ ⟨hHeld.1.mod m7 (fun c => c), hHeld.2.and_then m7⟩ fun hHeld' => ?_
      clear hK K hHeld
      have hHeld := hHeld'
      clear hHeld'
      simp only [Act.put, List.setIfInBounds_toArray, List.set_cons_zero, List.set_cons_succ]
      refine readyD (i := 5) (d := some 10) rfl (by kernel_rfl) rfl (by kernel_rfl) fun K hK => ?_
      refine op_map rfl ?_
      have m8 : Mod no w7 (w7.alloc (.map #[] 0)) := (Mod.refl no _).alloc _
      have hs := hs.mod m8 (fun c => c)
      refine hK _ _ ⟨hHeld.1.mod m8 (fun c => c), hHeld.2.and_then m8⟩ fun hHeld' => ?_
      clear hK K hHeld
      have hHeld := hHeld'
      clear hHeld'
      obtain ⟨w8, hw8⟩ : ∃ x, x = w7.alloc (.map #[] 0) := ⟨_, rfl⟩
      rw [← hw8] at hHeld ⊢
      try rw [← hw8] at hs
      simp only [Act.put, List.setIfInBounds_toArray, List.set_cons_zero, List.set_cons_succ]
      refine takeD (i := 6) (d := some 11) (v := .agg #[.int .i64 3, .int .i64 64, .slice (some ⟨w6.heap.size, 0, none⟩) 3 3, .map (some w0.drew.heap.size), .map (some w7.heap.size)]) rfl (by kernel_rfl) (by kernel_rfl) (by kernel_rfl) rfl (fun _ _ _ h => h) (Or.inl ⟨by kernel_rfl, fun w9 hw => y_buildA rfl rfl rfl rfl rfl ⟨_, _, _, rfl⟩ ⟨_, rfl⟩ ⟨_, rfl⟩⟩) hHeld ?_
      simp only [Act.put, List.setIfInBounds_toArray, List.set_cons_zero, List.set_cons_succ]
      refine readyD (i := 7) (d := some 12) rfl (by kernel_rfl) rfl (by kernel_rfl) fun K hK => ?_
      refine op_box rfl rfl ?_
      have ma : Mod no w8 (w8.alloc (.cells #[.int .i64 3, .int .i64 64, .slice (some ⟨w6.heap.size, 0, none⟩) 3 3, .map (some w0.drew.heap.size), .map (some w7.heap.size)] 61)) := (Mod.refl no _).alloc _
      have hA : ArAt (w8.alloc (.cells #[.int .i64 3, .int .i64 64, .slice (some ⟨w6.heap.size, 0, none⟩) 3 3, .map (some w0.drew.heap.size), .map (some w7.heap.size)] 61)) w8.heap.size w6.heap.size := ⟨⟨_, _, Blk.new w8 61 _⟩, cs, hs.mod ma (fun c => c), by rw [hl]⟩
      refine hK _ _ ⟨hHeld.1.mod ma (fun c => c), hHeld.2.and_then ma⟩ fun hHeld' => ?_
      clear hK K hHeld
      have hHeld := hHeld'
      clear hHeld'
      simp only [Act.put, List.setIfInBounds_toArray, List.set_cons_zero, List.set_cons_succ]
      refine takeD (i := 8) (d := some 3) (v := .pointer (some ⟨w8.heap.size, 0, none⟩)) rfl (by kernel_rfl) (by kernel_rfl) (by kernel_rfl) rfl (fun _ _ _ h => h) (Or.inl ⟨by kernel_rfl, fun w9 hw => y_assign rfl rfl⟩) hHeld ?_
      simp only [Act.put, List.setIfInBounds_toArray, List.set_cons_zero, List.set_cons_succ]
      refine wpAnyH_done (by kernel_rfl) ?_ _
      refine ret_out ?_
      refine HK0.out _ _ (e2_any hHeld.2 hHeld.1 hA hsz _ _ _ _ _ _ _ _ _ _ _ _ _ _ _ _ _ _ _ _ _ _ _ _ _ _ _ _ _ _ _ _ ?_)
      intro u2 u4 u13 u14 u15 u16 u17 u18 u19 u20 u21 u22 u23 u24 u25 u26 u27 u28 u29 u30 u31 u32 w' h M A
      subst h
      go_ret
      exact ⟨_, _, rfl, A, hsz, M⟩
    · refine op_map rfl ?_
      have m9 : Mod no w6 (w6.alloc (.map #[] 0)) := (Mod.refl no _).alloc _
      refine hK _ _ ⟨hHeld.1.mod m9 (fun c => c), hHeld.2.and_then m9⟩ fun hHeld' => ?_
      clear hK K hHeld
      have hHeld := hHeld'
      clear hHeld'
      obtain ⟨w9, hw9⟩ : ∃ x, x = w6.alloc (.map #[] 0) := ⟨_, rfl⟩
      rw [← hw9] at hHeld ⊢
      try rw [← hw9] at hs
      simp only [Act.put, List.setIfInBounds_toArray, List.set_cons_zero, List.set_cons_succ]
      refine readyD (i := 3) (d := some 8) rfl (by kernel_rfl) rfl (by kernel_rfl) fun K hK => ?_
      refine op_make (n := 3) rfl rfl rfl Tryz.underlying58 seg_info (by decide) (by decide) fun cs w10 hb10 hl m10 => ?_
      have hs := hb10
      have hsz : w.heap.size ≤ w9.heap.size := (hHeld.2).size
      refine hK _ _ ⟨hHeld.1.mod m10 (fun c => c), hHeld.2.and_then m10⟩ fun hHeld' => ?_
      clear hK K hHeld
      have hHeld := hHeld'
      clear hHeld'
      simp only [Act.put, List.setIfInBounds_toArray, List.set_cons_zero, List.set_cons_succ]
      refine takeD (i := 6) (d := some 11) (v := .agg #[.int .i64 3, .int .i64 64, .slice (some ⟨w9.heap.size, 0, none⟩) 3 3, .map (some w0.drew.heap.size), .map (some w6.heap.size)]) rfl (by kernel_rfl) (by kernel_rfl) (by kernel_rfl) rfl (fun _ _ _ h => h) (Or.inl ⟨by kernel_rfl, fun w9 hw => y_buildA rfl rfl rfl rfl rfl ⟨_, _, _, rfl⟩ ⟨_, rfl⟩ ⟨_, rfl⟩⟩) hHeld ?_
      simp only [Act.put, List.setIfInBounds_toArray, List.set_cons_zero, List.set_cons_succ]
      refine readyD (i := 7) (d := some 12) rfl (by kernel_rfl) rfl (by kernel_rfl) fun K hK => ?_
      refine op_box rfl rfl ?_
      have ma : Mod no w10 (w10.alloc (.cells #[.int .i64 3, .int .i64 64, .slice (some ⟨w9.heap.size, 0, none⟩) 3 3, .map (some w0.drew.heap.size), .map (some w6.heap.size)] 61)) := (Mod.refl no _).alloc _
      have hA : ArAt (w10.alloc (.cells #[.int .i64 3, .int .i64 64, .slice (some ⟨w9.heap.size, 0, none⟩) 3 3, .map (some w0.drew.heap.size), .map (some w6.heap.size)] 61)) w10.heap.size w9.heap.size := ⟨⟨_, _, Blk.new w10 61 _⟩, cs, hs.mod ma (fun c => c), by rw [hl]⟩
      refine hK _ _ ⟨hHeld.1.mod ma (fun c => c), hHeld.2.and_then ma⟩ fun hHeld' => ?_
      clear hK K hHeld
      have hHeld := hHeld'
      clear hHeld'
      simp only [Act.put, List.setIfInBounds_toArray, List.set_cons_zero, List.set_cons_succ]
      refine takeD (i := 8) (d := some 3) (v := .pointer (some ⟨w10.heap.size, 0, none⟩)) rfl (by kernel_rfl) (by kernel_rfl) (by kernel_rfl) rfl (fun _ _ _ h => h) (Or.inl ⟨by kernel_rfl, fun w9 hw => y_assign rfl rfl⟩) hHeld ?_
      simp only [Act.put, List.setIfInBounds_toArray, List.set_cons_zero, List.set_cons_succ]
      refine wpAnyH_done (by kernel_rfl) ?_ _
      refine ret_out ?_
      refine HK0.out _ _ (e2_any hHeld.2 hHeld.1 hA hsz _ _ _ _ _ _ _ _ _ _ _ _ _ _ _ _ _ _ _ _ _ _ _ _ _ _ _ _ _ _ _ _ ?_)
      intro u2 u4 u13 u14 u15 u16 u17 u18 u19 u20 u21 u22 u23 u24 u25 u26 u27 u28 u29 u30 u31 u32 w' h M A
      subst h
      go_ret
      exact ⟨_, _, rfl, A, hsz, M⟩
  · refine op_map rfl ?_
    have m11 : Mod no w0.drew (w0.drew.alloc (.map #[] 0)) := (Mod.refl no _).alloc _
    refine hK _ _ ⟨hHeld.1.mod m11 (fun c => c), hHeld.2.and_then m11⟩ fun hHeld' => ?_
    clear hK K hHeld
    have hHeld := hHeld'
    clear hHeld'
    obtain ⟨w11, hw11⟩ : ∃ x, x = w0.drew.alloc (.map #[] 0) := ⟨_, rfl⟩
    rw [← hw11] at hHeld ⊢
    try rw [← hw11] at hs
    simp only [Act.put, List.setIfInBounds_toArray, List.set_cons_zero, List.set_cons_succ]
    refine wpAnyH_ready (rs := [3, 4]) (by kernel_rfl) (by simp) (aOne (i := 3) (d := some 8) rfl rfl (by kernel_rfl) (fun K hK => ?_) (aOne (i := 4) (d := some 9) rfl rfl (by kernel_rfl) (fun K hK => ?_) AllReadyH.nil))
    · refine op_make (n := 3) rfl rfl rfl Tryz.underlying58 seg_info (by decide) (by decide) fun cs w12 hb12 hl m12 => ?_
      have hs := hb12
      have hsz : w.heap.size ≤ w11.heap.size := (hHeld.2).size
      refine hK _ _ ⟨hHeld.1.mod m12 (fun c => c), hHeld.2.and_then m12⟩ fun hHeld' => ?_
      clear hK K hHeld
      have hHeld := hHeld'
      clear hHeld'
      simp only [Act.put, List.setIfInBounds_toArray, List.set_cons_zero, List.set_cons_succ]
      refine readyD (i := 4) (d := some 9) rfl (by kernel_rfl) rfl (by kernel_rfl) fun K hK => ?_
      refine op_map rfl ?_
      have m13 : Mod no w12 (w12.alloc (.map #[] 0)) := (Mod.refl no _).alloc _
      have hs := hs.mod m13 (fun c => c)
      refine hK _ _ ⟨hHeld.1.mod m13 (fun c => c), hHeld.2.and_then m13⟩ fun hHeld' => ?_
      clear hK K hHeld
      have hHeld := hHeld'
      clear hHeld'
      obtain ⟨w13, hw13⟩ : ∃ x, x = w12.alloc (.map #[] 0) := ⟨_, rfl⟩
      rw [← hw13] at hHeld ⊢
      try rw [← hw13] at hs
      simp only [Act.put, List.setIfInBounds_toArray, List.set_cons_zero, List.set_cons_succ]
      refine takeD (i := 6) (d := some 11) (v := .agg #[.int .i64 3, .int .i64 64, .slice (some ⟨w11.heap.size, 0, none⟩) 3 3, .map (some w12.heap.size), .map (some w0.drew.heap.size)]) rfl (by kernel_rfl) (by kernel_rfl) (by kernel_rfl) rfl (fun _ _ _ h => h) (Or.inl ⟨by kernel_rfl, fun w9 hw => y_buildA rfl rfl rfl rfl rfl ⟨_, _, _, rfl⟩ ⟨_, rfl⟩ ⟨_, rfl⟩⟩) hHeld ?_
      simp only [Act.put, List.setIfInBounds_toArray, List.set_cons_zero, List.set_cons_succ]
      refine readyD (i := 7) (d := some 12) rfl (by kernel_rfl) rfl (by kernel_rfl) fun K hK => ?_
      refine op_box rfl rfl ?_
      have ma : Mod no w13 (w13.alloc (.cells #[.int .i64 3, .int .i64 64, .slice (some ⟨w11.heap.size, 0, none⟩) 3 3, .map (some w12.heap.size), .map (some w0.drew.heap.size)] 61)) := (Mod.refl no _).alloc _
      have hA : ArAt (w13.alloc (.cells #[.int .i64 3, .int .i64 64, .slice (some ⟨w11.heap.size, 0, none⟩) 3 3, .map (some w12.heap.size), .map (some w0.drew.heap.size)] 61)) w13.heap.size w11.heap.size := ⟨⟨_, _, Blk.new w13 61 _⟩, cs, hs.mod ma (fun c => c), by rw [hl]⟩
      refine hK _ _ ⟨hHeld.1.mod ma (fun c => c), hHeld.2.and_then ma⟩ fun hHeld' => ?_
      clear hK K hHeld
      have hHeld := hHeld'
      clear hHeld'
      simp only [Act.put, List.setIfInBounds_toArray, List.set_cons_zero, List.set_cons_succ]
      refine takeD (i := 8) (d := some 3) (v := .pointer (some ⟨w13.heap.size, 0, none⟩)) rfl (by kernel_rfl) (by kernel_rfl) (by kernel_rfl) rfl (fun _ _ _ h => h) (Or.inl ⟨by kernel_rfl, fun w9 hw => y_assign rfl rfl⟩) hHeld ?_
      simp only [Act.put, List.setIfInBounds_toArray, List.set_cons_zero, List.set_cons_succ]
      refine wpAnyH_done (by kernel_rfl) ?_ _
      refine ret_out ?_
      refine HK0.out _ _ (e2_any hHeld.2 hHeld.1 hA hsz _ _ _ _ _ _ _ _ _ _ _ _ _ _ _ _ _ _ _ _ _ _ _ _ _ _ _ _ _ _ _ _ ?_)
      intro u2 u4 u13 u14 u15 u16 u17 u18 u19 u20 u21 u22 u23 u24 u25 u26 u27 u28 u29 u30 u31 u32 w' h M A
      subst h
      go_ret
      exact ⟨_, _, rfl, A, hsz, M⟩
    · refine op_map rfl ?_
      have m14 : Mod no w11 (w11.alloc (.map #[] 0)) := (Mod.refl no _).alloc _
      refine hK _ _ ⟨hHeld.1.mod m14 (fun c => c), hHeld.2.and_then m14⟩ fun hHeld' => ?_
      clear hK K hHeld
      have hHeld := hHeld'
      clear hHeld'
      obtain ⟨w14, hw14⟩ : ∃ x, x = w11.alloc (.map #[] 0) := ⟨_, rfl⟩
      rw [← hw14] at hHeld ⊢
      try rw [← hw14] at hs
      simp only [Act.put, List.setIfInBounds_toArray, List.set_cons_zero, List.set_cons_succ]
      refine readyD (i := 3) (d := some 8) rfl (by kernel_rfl) rfl (by kernel_rfl) fun K hK => ?_
      refine op_make (n := 3) rfl rfl rfl Tryz.underlying58 seg_info (by decide) (by decide) fun cs w15 hb15 hl m15 => ?_
      have hs := hb15
      have hsz : w.heap.size ≤ w14.heap.size := (hHeld.2).size
      refine hK _ _ ⟨hHeld.1.mod m15 (fun c => c), hHeld.2.and_then m15⟩ fun hHeld' => ?_
      clear hK K hHeld
      have hHeld := hHeld'
      clear hHeld'
      simp only [Act.put, List.setIfInBounds_toArray, List.set_cons_zero, List.set_cons_succ]
      refine takeD (i := 6) (d := some 11) (v := .agg #[.int .i64 3, .int .i64 64, .slice (some ⟨w14.heap.size, 0, none⟩) 3 3, .map (some w11.heap.size), .map (some w0.drew.heap.size)]) rfl (by kernel_rfl) (by kernel_rfl) (by kernel_rfl) rfl (fun _ _ _ h => h) (Or.inl ⟨by kernel_rfl, fun w9 hw => y_buildA rfl rfl rfl rfl rfl ⟨_, _, _, rfl⟩ ⟨_, rfl⟩ ⟨_, rfl⟩⟩) hHeld ?_
      simp only [Act.put, List.setIfInBounds_toArray, List.set_cons_zero, List.set_cons_succ]
      refine readyD (i := 7) (d := some 12) rfl (by kernel_rfl) rfl (by kernel_rfl) fun K hK => ?_
      refine op_box rfl rfl ?_
      have ma : Mod no w15 (w15.alloc (.cells #[.int .i64 3, .int .i64 64, .slice (some ⟨w14.heap.size, 0, none⟩) 3 3, .map (some w11.heap.size), .map (some w0.drew.heap.size)] 61)) := (Mod.refl no _).alloc _
      have hA : ArAt (w15.alloc (.cells #[.int .i64 3, .int .i64 64, .slice (some ⟨w14.heap.size, 0, none⟩) 3 3, .map (some w11.heap.size), .map (some w0.drew.heap.size)] 61)) w15.heap.size w14.heap.size := ⟨⟨_, _, Blk.new w15 61 _⟩, cs, hs.mod ma (fun c => c), by rw [hl]⟩
      refine hK _ _ ⟨hHeld.1.mod ma (fun c => c), hHeld.2.and_then ma⟩ fun hHeld' => ?_
      clear hK K hHeld
      have hHeld := hHeld'
      clear hHeld'
      simp only [Act.put, List.setIfInBounds_toArray, List.set_cons_zero, List.set_cons_succ]
      refine takeD (i := 8) (d := some 3) (v := .pointer (some ⟨w15.heap.size, 0, none⟩)) rfl (by kernel_rfl) (by kernel_rfl) (by kernel_rfl) rfl (fun _ _ _ h => h) (Or.inl ⟨by kernel_rfl, fun w9 hw => y_assign rfl rfl⟩) hHeld ?_
      simp only [Act.put, List.setIfInBounds_toArray, List.set_cons_zero, List.set_cons_succ]
      refine wpAnyH_done (by kernel_rfl) ?_ _
      refine ret_out ?_
      refine HK0.out _ _ (e2_any hHeld.2 hHeld.1 hA hsz _ _ _ _ _ _ _ _ _ _ _ _ _ _ _ _ _ _ _ _ _ _ _ _ _ _ _ _ _ _ _ _ ?_)
      intro u2 u4 u13 u14 u15 u16 u17 u18 u19 u20 u21 u22 u23 u24 u25 u26 u27 u28 u29 u30 u31 u32 w' h M A
      subst h
      go_ret
      exact ⟨_, _, rfl, A, hsz, M⟩
noncomputable def anC : Code := Tryz.f4.body.getD .skip
noncomputable def an1C : Code := sR anC
noncomputable def an2C : Code := sR an1C
noncomputable def an3C : Code := sR an2C
noncomputable def an4C : Code := sR an3C
theorem y_sub1 {a : Act} {o : Oper} {w : World} {x : Operand} (ho : o.op = .binOp .sub 3 x (.const (.int .i64 1)) 3) (hx : a.eval x = .int .i64 3) : (execOp a.eval o).run Tryz.prog w = .ok (.value (.int .i64 2)) w := by
  have hc : a.eval (.const (.int .i64 1)) = .int .i64 1 := rfl
  generalize a.eval = ev at hx hc
  unfold execOp
  simp only [ho, hx, hc]
  go_simp
  rfl
set_option maxRecDepth 100000 in
set_option maxHeartbeats 1000000 in
theorem anew_m {w : World} : Calls Tryz.prog 4 #[.agg #[.int .i64 3, .int .i64 64]] w fun e w' => ∃ ar, e = .returned (.tuple #[.pointer (some ⟨ar, 0, none⟩), .int .i64 0]) ∧ Mod no w w' := by
  have hbc : Blk (w.alloc (.cells #[.int .i64 3, .int .i64 64] 30)) w.heap.size 30 #[.int .i64 3, .int .i64 64] := Blk.new w 30 _
  have hm0 : Mod no w (w.alloc (.cells #[.int .i64 3, .int .i64 64] 30)) := (Mod.refl no w).alloc _
  go_enter Tryz.func4, Tryz.ntmps4
  show Code.wp Tryz.prog (Code.seq (sL anC) (Code.seq (sL an1C) (Code.seq (sL an2C) (Code.seq (sL an3C) an4C)))) _ _ _
  refine wp_seq_k fun K0 hK0 => ?_
  have HK0 := Lib.hid hK0
  clear hK0
  conv => arg 2; whnf
  go_wp2_with fail
  refine HK0.out _ _ ?_
  clear HK0
  have H0 := Lib.hid (And.intro hbc hm0)
  clear hbc hm0
  refine wp_seq_k fun K0 hK0 => ?_
  have HK0 := Lib.hid hK0
  clear hK0
  conv => arg 2; whnf
  go_wp2_with fail
  generalize w.alloc (.cells #[.int .i64 3, .int .i64 64] 30) = w0 at *
  refine sized_m.mono ?_
  rintro e w1 ⟨rfl, m1⟩
  have H1 := Lib.hid (And.intro (H0.out.1.mod m1 (fun c => c)) (H0.out.2.and_then m1))
  have c0 := H1.out.1.cell 0
  have c1 := H1.out.1.cell 1
  simp at c0 c1
  clear m1 H0
  go_wp2_with fail
  refine HK0.out _ _ ?_
  clear HK0
  refine wp_seq_k fun K0 hK0 => ?_
  have HK0 := Lib.hid hK0
  clear hK0
  conv => arg 2; whnf
  go_wp2_with fail
  refine empty_m.mono ?_
  rintro e w2 ⟨ar, sg, rfl, hA, hsg, m2⟩
  have hs1 := H1.out.2.size
  have H2 := Lib.hid (And.intro (H1.out.1.mod m2 (fun c => c)) (And.intro (H1.out.2.and_then m2) (show w.heap.size ≤ sg by omega)))
  clear m2 H1 c0 c1 hs1 hsg
  go_wp2_with fail
  refine HK0.out _ _ ?_
  clear HK0
  refine wp_seq_k fun K0 hK0 => ?_
  have HK0 := Lib.hid hK0
  clear hK0
  conv => arg 2; whnf
  refine wp_only ?_
  obtain ⟨⟨m3, m4, ha1⟩, cs, hb1, hcl⟩ := hA
  refine wp_region_held_drew (S := fun w' => Blk w' w.heap.size 30 #[.int .i64 3, .int .i64 64] ∧ Blk w' ar 61 #[.int .i64 3, .int .i64 64, .slice (some ⟨sg, 0, none⟩) 3 3, m3, m4] ∧ (∃ cs : List Value, Blk w' sg 57 cs.toArray ∧ cs.length = 18) ∧ Mod no w w') (by kernel_rfl) ⟨H2.out.1.drew, ha1.drew, ⟨cs, hb1.drew, hcl⟩, H2.out.2.1.drew⟩ (fun hHeld => ?_)
  refine takeD (i := 0) (d := some 10) (v := (.pointer (some ⟨ar, 0, none⟩))) rfl (by kernel_rfl) (by kernel_rfl) (by kernel_rfl) rfl (fun _ _ _ h => h) (Or.inl ⟨by kernel_rfl, fun w9 hw => y_move rfl rfl⟩) hHeld ?_
  simp only [Act.put, List.setIfInBounds_toArray, List.set_cons_zero, List.set_cons_succ]
  refine takeD (i := 1) (d := some 11) (v := (.pointer (some ⟨ar, 0, none⟩))) rfl (by kernel_rfl) (by kernel_rfl) (by kernel_rfl) rfl (fun _ _ _ h => h) (Or.inl ⟨by kernel_rfl, fun w9 hw => y_nil rfl rfl⟩) hHeld ?_
  simp only [Act.put, List.setIfInBounds_toArray, List.set_cons_zero, List.set_cons_succ]
  refine takeD (i := 2) (d := some 12) (v := (.pointer (some ⟨ar, 2, none⟩))) rfl (by kernel_rfl) (by kernel_rfl) (by kernel_rfl) rfl (fun _ _ _ h => h) (Or.inl ⟨by kernel_rfl, fun w9 hw => y_fld (j := 2) (o' := 0) rfl rfl (by decide)⟩) hHeld ?_
  simp only [Act.put, List.setIfInBounds_toArray, List.set_cons_zero, List.set_cons_succ]
  refine takeD (i := 3) (d := some 13) (v := (.slice (some ⟨sg, 0, none⟩) 3 3)) rfl (by kernel_rfl) (by kernel_rfl) (by kernel_rfl) rfl (fun _ _ _ h => h) (Or.inl ⟨by kernel_rfl, fun w9 hw => y_load rfl (.inr rfl) rfl (by rw [hw.2.1.cell]; rfl) rfl⟩) hHeld ?_
  simp only [Act.put, List.setIfInBounds_toArray, List.set_cons_zero, List.set_cons_succ]
  refine takeD (i := 4) (d := some 14) (v := (.pointer (some ⟨w.heap.size, 0, none⟩))) rfl (by kernel_rfl) (by kernel_rfl) (by kernel_rfl) rfl (fun _ _ _ h => h) (Or.inl ⟨by kernel_rfl, fun w9 hw => y_fld (j := 0) (o' := 0) rfl rfl (by decide)⟩) hHeld ?_
  simp only [Act.put, List.setIfInBounds_toArray, List.set_cons_zero, List.set_cons_succ]
  refine takeD (i := 5) (d := some 15) (v := (.int .i64 3)) rfl (by kernel_rfl) (by kernel_rfl) (by kernel_rfl) rfl (fun _ _ _ h => h) (Or.inl ⟨by kernel_rfl, fun w9 hw => y_load rfl (.inl rfl) rfl (by rw [hw.1.cell]; rfl) rfl⟩) hHeld ?_
  simp only [Act.put, List.setIfInBounds_toArray, List.set_cons_zero, List.set_cons_succ]
  refine takeD (i := 6) (d := some 16) (v := (.int .i64 2)) rfl (by kernel_rfl) (by kernel_rfl) (by kernel_rfl) rfl (fun _ _ _ h => h) (Or.inl ⟨by kernel_rfl, fun w9 hw => y_sub1 rfl rfl⟩) hHeld ?_
  simp only [Act.put, List.setIfInBounds_toArray, List.set_cons_zero, List.set_cons_succ]
  refine takeD (i := 7) (d := some 17) (v := (.pointer (some ⟨sg, 12, none⟩))) rfl (by kernel_rfl) (by kernel_rfl) (by kernel_rfl) rfl (fun _ _ _ h => h) (Or.inl ⟨by kernel_rfl, fun w9 hw => y_idx (k := 2) (n := 3) rfl rfl rfl (by decide)⟩) hHeld ?_
  simp only [Act.put, List.setIfInBounds_toArray, List.set_cons_zero, List.set_cons_succ]
  refine takeD (i := 8) (d := some 18) (v := (.pointer (some ⟨sg, 12, none⟩))) rfl (by kernel_rfl) (by kernel_rfl) (by kernel_rfl) rfl (fun _ _ _ h => h) (Or.inl ⟨by kernel_rfl, fun w9 hw => y_fld (j := 0) (o' := 12) rfl rfl (by decide)⟩) hHeld ?_
  simp only [Act.put, List.setIfInBounds_toArray, List.set_cons_zero, List.set_cons_succ]
  refine takeD (i := 9) (d := some 19) (v := (.pointer (some ⟨sg, 12, none⟩))) rfl (by kernel_rfl) (by kernel_rfl) (by kernel_rfl) rfl (fun _ _ _ h => h) (Or.inl ⟨by kernel_rfl, fun w9 hw => y_fld (j := 0) (o' := 12) rfl rfl (by decide)⟩) hHeld ?_
  simp only [Act.put, List.setIfInBounds_toArray, List.set_cons_zero, List.set_cons_succ]
  refine readyD (i := 10) (d := none) rfl (by kernel_rfl) rfl (by kernel_rfl) fun K hK => ?_
  obtain ⟨cs3, hb3, hl3⟩ := hHeld.2.2.1
  obtain ⟨old, hold⟩ : ∃ old, cs3[12]? = some old := ⟨_, List.getElem?_eq_getElem (by omega)⟩
  have cg : w2.drew.cell? ⟨sg, 12, none⟩ = some old := by rw [hb3.cell, List.getElem?_toArray]; exact hold
  have fg := hb3.free 12
  have ha3 := (show ArAt w2.drew ar sg from ⟨⟨m3, m4, hHeld.2.1⟩, cs3, hb3, hl3⟩).set 12 (.int .u8 1)
  have hsz : w.heap.size ≤ sg := H2.out.2.2
  have hcs : w.heap.size ≠ sg := fun e => by have h := hHeld.1; rw [e] at h; exact absurd (h.same hb3).1 (by decide)
  have hm3 : Mod no w (w2.drew.setCell ⟨sg, 12, none⟩ (.int .u8 1)) := hHeld.2.2.2.set (p := ⟨sg, 12, none⟩) (fun h => absurd h (by show ¬ sg < _; omega)) _
  refine op_storeS rfl rfl rfl cg fg ?_
  refine hK _ _ ⟨hHeld.1.far (p := ⟨sg, 12, none⟩) hcs _, hHeld.2.1.far (p := ⟨sg, 12, none⟩) (fun e => by have h := hHeld.2.1; rw [e] at h; exact absurd (h.same hb3).1 (by decide)) _, ha3.2, hm3⟩ fun _ => ?_
  have H3 := Lib.hid hm3
  clear hK K hHeld hm3 ha3 cg fg hb3 hl3 hold hcs hsz
  simp only [Act.put, List.setIfInBounds_toArray, List.set_cons_zero, List.set_cons_succ]
  refine wpAnyH_done (by kernel_rfl) ?_ _
  refine ret_out ?_
  refine HK0.out _ _ ?_
  conv => arg 2; whnf
  go_wp2_with fail
  go_ret2
  exact ⟨ar, rfl, H3.out⟩

end Go.Proofs.YtcpflggjolkjgaaGreatDoor.MN
