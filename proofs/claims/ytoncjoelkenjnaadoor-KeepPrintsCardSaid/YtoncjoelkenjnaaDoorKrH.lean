/- The laws KeepPrints and KeepParses: the walks (printed by keeplaws.py). -/
import Derived.Test.YtoncjoelkenjnaaDoorKrG
import Derived.Laws.StructEq
namespace Go.Proofs.YtoncjoelkenjnaaDoor.KR
open Go.RowKit Mem HD
set_option linter.unusedVariables false
set_option linter.unusedSimpArgs false

set_option maxRecDepth 100000 in
theorem rule_fields : (Tryd.prog.fieldsOf 24).toList = [{ name := "Last", type := 22, offset := 0, embedded := false, tag := "", pkgPath := "", byteOffset := 0 }, { name := "Hours", type := 22, offset := 1, embedded := false, tag := "", pkgPath := "", byteOffset := 2 }, { name := "Days", type := 22, offset := 2, embedded := false, tag := "", pkgPath := "", byteOffset := 4 }, { name := "Weeks", type := 22, offset := 3, embedded := false, tag := "", pkgPath := "", byteOffset := 6 }, { name := "Months", type := 22, offset := 4, embedded := false, tag := "", pkgPath := "", byteOffset := 8 }, { name := "Years", type := 22, offset := 5, embedded := false, tag := "", pkgPath := "", byteOffset := 10 }, { name := "Within", type := 2, offset := 6, embedded := false, tag := "", pkgPath := "", byteOffset := 16 }] := by
  unfold Program.fieldsOf
  rw [Tryd.underlying24]
set_option maxRecDepth 100000 in
theorem rule_isStruct : Tryd.prog.underlying 24 = some (.struct (Tryd.prog.fieldsOf 24)) := by
  unfold Program.fieldsOf
  rw [Tryd.underlying24]
theorem rule_stood : Tryd.prog.stoodInHeld 24 = false := by kernel_rfl
theorem rule_guard : Tryd.prog.eqGuardType Tryd.prog.depth 24 = false := by kernel_rfl
theorem rule_same (l h d v m y x : Int) (w : World) : (Op.equalIn 10000 24 (Rv l h d v m y x) (Rv l h d v m y x)).run Tryd.prog w = .ok true w := by
  have p0 : (part 22 #[.int .i16 l, .int .i16 h, .int .i16 d, .int .i16 v, .int .i16 m, .int .i16 y, .int .i64 x] 0).run Tryd.prog w = .ok (.int .i16 l) w := by
    unfold part; simp [isAgg, Tryd.underlying22]
  have p1 : (part 22 #[.int .i16 l, .int .i16 h, .int .i16 d, .int .i16 v, .int .i16 m, .int .i16 y, .int .i64 x] 1).run Tryd.prog w = .ok (.int .i16 h) w := by
    unfold part; simp [isAgg, Tryd.underlying22]
  have p2 : (part 22 #[.int .i16 l, .int .i16 h, .int .i16 d, .int .i16 v, .int .i16 m, .int .i16 y, .int .i64 x] 2).run Tryd.prog w = .ok (.int .i16 d) w := by
    unfold part; simp [isAgg, Tryd.underlying22]
  have p3 : (part 22 #[.int .i16 l, .int .i16 h, .int .i16 d, .int .i16 v, .int .i16 m, .int .i16 y, .int .i64 x] 3).run Tryd.prog w = .ok (.int .i16 v) w := by
    unfold part; simp [isAgg, Tryd.underlying22]
  have p4 : (part 22 #[.int .i16 l, .int .i16 h, .int .i16 d, .int .i16 v, .int .i16 m, .int .i16 y, .int .i64 x] 4).run Tryd.prog w = .ok (.int .i16 m) w := by
    unfold part; simp [isAgg, Tryd.underlying22]
  have p5 : (part 22 #[.int .i16 l, .int .i16 h, .int .i16 d, .int .i16 v, .int .i16 m, .int .i16 y, .int .i64 x] 5).run Tryd.prog w = .ok (.int .i16 y) w := by
    unfold part; simp [isAgg, Tryd.underlying22]
  have p6 : (part 2 #[.int .i16 l, .int .i16 h, .int .i16 d, .int .i16 v, .int .i16 m, .int .i16 y, .int .i64 x] 6).run Tryd.prog w = .ok (.int .i64 x) w := by
    unfold part; simp [isAgg, Tryd.underlying2]
  rw [run_equalIn_agg w _ _ _ _ rule_isStruct rule_stood, rule_fields]
  simp [Op.eqFields, p0, p1, p2, p3, p4, p5, p6, Result.andThen, run_equalIn_int (P := Tryd.prog) w _ 22 .i16 .i16 l l Tryd.underlying22, run_equalIn_int (P := Tryd.prog) w _ 22 .i16 .i16 h h Tryd.underlying22, run_equalIn_int (P := Tryd.prog) w _ 22 .i16 .i16 d d Tryd.underlying22, run_equalIn_int (P := Tryd.prog) w _ 22 .i16 .i16 v v Tryd.underlying22, run_equalIn_int (P := Tryd.prog) w _ 22 .i16 .i16 m m Tryd.underlying22, run_equalIn_int (P := Tryd.prog) w _ 22 .i16 .i16 y y Tryd.underlying22, run_equalIn_int (P := Tryd.prog) w _ 2 .i64 .i64 x x Tryd.underlying2]
theorem rule_eql (l h d v m y x : Int) (w : World) : (binOp .eql 24 (Rv l h d v m y x) (Rv l h d v m y x)).run Tryd.prog w = .ok (.bool true) w := by
  rw [run_eql_struct, rule_same]; rfl
theorem rule_neq (l h d v m y x : Int) (w : World) : (binOp .neq 24 (Rv l h d v m y x) (Rv l h d v m y x)).run Tryd.prog w = .ok (.bool false) w := by
  rw [run_neq_struct, rule_same]; rfl
theorem answer_un {l : Bytes} {r : Rule} {c : Int} (h : Answer l r c) {q : Rule} (h1 : q.In) (h2 : q.right) (h3 : q.text = l) : r = q ∧ c = 0 := h.same (answer_yes h1 h2 h3)
theorem answer_zero {l : Bytes} {r : Rule} {c : Int} (h : Answer l r c) (hn : ¬ ∃ q : Rule, q.In ∧ q.right ∧ q.text = l) : r = Rule.zero ∧ c = 280 := by
  rcases h with ⟨_, h1, h2, h3⟩ | ⟨h1, h2, _⟩
  · exact absurd ⟨r, h1, h2, h3⟩ hn
  · exact ⟨h2, h1⟩
theorem text_len {r : Rule} (hi : r.In) (hr : r.right) : r.text.length ≤ 1000 := by
  unfold Rule.text
  split
  · decide
  · exact join_len (all_num hi hr)
set_option maxRecDepth 100000 in
set_option maxHeartbeats 4000000 in
theorem prints_law {w : World} {r : Rule} {m : Int} (hi : r.In) (hT : TW w) (hV : VW w) (hm : w.cell? ⟨3, 0, none⟩ = some (.int .i64 m)) : Calls Tryd.prog 3 #[Rv r.l r.h r.d r.w r.m r.y r.x] w fun e w' => e = .returned (.bool true) ∧ Mod no w w' := by
  have hlt : 3 < w.heap.size := Lib.lt_of_cell hm
  have HB := Lib.hid (Blk.new w 24 #[.int .i16 r.l, .int .i16 r.h, .int .i16 r.d, .int .i16 r.w, .int .i16 r.m, .int .i16 r.y, .int .i64 r.x])
  have n1 := rule_eql
  by_cases hr : r.right
  · have HP := Lib.hid (fun (W : World) (M : Mod no w W) => (print_p (w := W) hi (hT.mod M)).mono (fun e w' (h : _ ∧ _) => show e = .returned (.tuple #[.string (sv r.text), .int .i64 0]) ∧ Mod no W w' from ⟨by
      rcases h.2 with ⟨_, h⟩ | ⟨h, _⟩
      · exact h
      · exact absurd hr h, h.1⟩))
    have HR := Lib.hid (fun (W : World) => (print_r (w := W) hi).mono (fun e w' (h : _ ∧ _) => show e = .returned (.tuple #[.string (sv r.text), .int .i64 0]) ∧ Mod no W w' from ⟨by
      rcases h.2 with ⟨_, h⟩ | ⟨h, _⟩
      · exact h
      · exact absurd hr h, h.1⟩))
    have HA := Lib.hid (fun (W : World) (M : Mod no w W) => (parse_p (w := W) (l := r.text) (by have := text_len hi hr; omega) (hT.mod M) (hV.mod M) ((M.cell (p := ⟨3, 0, none⟩) hlt (fun c => c)).trans hm)).mono (fun e w' (h : PE W r.text e w') => show e = .returned (.tuple #[Rv r.l r.h r.d r.w r.m r.y r.x, .int .i64 0]) ∧ Mod no W w' from ⟨by
      obtain ⟨_, q, c, he, ha⟩ := h
      obtain ⟨h1, h2⟩ := answer_un ha hi hr rfl
      subst h1 h2
      exact he, h.1⟩))
    have g1 : ((sv r.text).toList != (sv r.text).toList) = false := by simp
    clear hi hT hV hm hlt hr
    generalize r.text = t at *
    go_enter Tryd.func3, Tryd.ntmps3
    go_wp2_with (first
      | (go_at_call 5; refine (HP.out _ ?_).mono ?_; exact (Mod.refl no w).alloc _; rintro e w2 ⟨rfl, m2⟩; have M2 := Lib.hid (((Mod.refl no w).alloc _).and_then m2); have B2 := Lib.hid (HB.out.mod m2 (fun c => c)); clear m2; have k0 := B2.out.cell 0; have k1 := B2.out.cell 1; have k2 := B2.out.cell 2; have k3 := B2.out.cell 3; have k4 := B2.out.cell 4; have k5 := B2.out.cell 5; have k6 := B2.out.cell 6)
      | (go_at_call 6; refine (HR.out _).mono ?_; rintro e w3 ⟨rfl, m3⟩; have M3 := Lib.hid (M2.out.and_then m3); have B3 := Lib.hid (B2.out.mod m3 (fun c => c)); clear m3 k0 k1 k2 k3 k4 k5 k6)
      | (go_at_call 7; refine (HA.out _ M3.out).mono ?_; rintro e w4 ⟨rfl, m4⟩; have M4 := Lib.hid (M3.out.and_then m4); have B4 := Lib.hid (B3.out.mod m4 (fun c => c)); clear m4; have k0 := B4.out.cell 0; have k1 := B4.out.cell 1; have k2 := B4.out.cell 2; have k3 := B4.out.cell 3; have k4 := B4.out.cell 4; have k5 := B4.out.cell 5; have k6 := B4.out.cell 6; have hs4 := B4.out.lt))
    go_ret
    exact ⟨rfl, M4.out.alloc _⟩
  · have HP := Lib.hid (fun (W : World) (M : Mod no w W) => (print_p (w := W) hi (hT.mod M)).mono (fun e w' (h : _ ∧ _) => show e = .returned (.tuple #[.string (sv []), .int .i64 280]) ∧ Mod no W w' from ⟨by
      rcases h.2 with ⟨h, _⟩ | ⟨_, h⟩
      · exact absurd h hr
      · exact h, h.1⟩))
    have HR := Lib.hid (fun (W : World) => (print_r (w := W) hi).mono (fun e w' (h : _ ∧ _) => show e = .returned (.tuple #[.string (sv []), .int .i64 280]) ∧ Mod no W w' from ⟨by
      rcases h.2 with ⟨h, _⟩ | ⟨_, h⟩
      · exact absurd h hr
      · exact h, h.1⟩))
    have HA := Lib.hid (fun (W : World) (M : Mod no w W) => (parse_p (w := W) (l := []) (by simp) (hT.mod M) (hV.mod M) ((M.cell (p := ⟨3, 0, none⟩) hlt (fun c => c)).trans hm)).mono (fun e w' (h : PE W [] e w') => show e = .returned (.tuple #[.agg #[.int .i16 0, .int .i16 0, .int .i16 0, .int .i16 0, .int .i16 0, .int .i16 0, .int .i64 0], .int .i64 280]) ∧ Mod no W w' from ⟨by
      obtain ⟨_, q, c, he, ha⟩ := h
      obtain ⟨h1, h2⟩ := answer_zero ha (fun ⟨q, _, _, h⟩ => text_ne q h)
      subst h1 h2
      exact he, h.1⟩))
    have g1 : (sv []).toList = [] := sv_list []
    clear hi hT hV hm hlt hr
    go_enter Tryd.func3, Tryd.ntmps3
    go_wp2_with (first
      | (go_at_call 5; refine (HP.out _ ?_).mono ?_; exact (Mod.refl no w).alloc _; rintro e w2 ⟨rfl, m2⟩; have M2 := Lib.hid (((Mod.refl no w).alloc _).and_then m2); have B2 := Lib.hid (HB.out.mod m2 (fun c => c)); clear m2; have k0 := B2.out.cell 0; have k1 := B2.out.cell 1; have k2 := B2.out.cell 2; have k3 := B2.out.cell 3; have k4 := B2.out.cell 4; have k5 := B2.out.cell 5; have k6 := B2.out.cell 6)
      | (go_at_call 6; refine (HR.out _).mono ?_; rintro e w3 ⟨rfl, m3⟩; have M3 := Lib.hid (M2.out.and_then m3); have B3 := Lib.hid (B2.out.mod m3 (fun c => c)); clear m3 k0 k1 k2 k3 k4 k5 k6)
      | (go_at_call 7; refine (HA.out _ M3.out).mono ?_; rintro e w4 ⟨rfl, m4⟩; have M4 := Lib.hid (M3.out.and_then m4); clear m4))
    go_ret
    exact ⟨rfl, M4.out.alloc _⟩
set_option maxRecDepth 100000 in
set_option maxHeartbeats 4000000 in
theorem parses_law {w : World} {l : Bytes} {m : Int} (hl : l.length ≤ 1048600) (hT : TW w) (hV : VW w) (hm : w.cell? ⟨3, 0, none⟩ = some (.int .i64 m)) : Calls Tryd.prog 4 #[.string (sv l)] w fun e w' => e = .returned (.bool true) ∧ Mod no w w' := by
  have n1 := rule_neq
  have hP := parse_p hl hT hV hm
  have hR := fun (W : World) => parse_r (w := W) hl
  by_cases hE : ∃ q : Rule, q.In ∧ q.right ∧ q.text = l
  · obtain ⟨r, hi, hr, ht⟩ := hE
    have HP := Lib.hid (hP.mono (fun e w' (h : PE w l e w') => show e = .returned (.tuple #[Rv r.l r.h r.d r.w r.m r.y r.x, .int .i64 0]) ∧ Mod no w w' from ⟨by
      obtain ⟨_, q, c, he, ha⟩ := h
      obtain ⟨h1, h2⟩ := answer_un ha hi hr ht
      subst h1 h2
      exact he, h.1⟩))
    have HR := Lib.hid (fun (W : World) => (hR W).mono (fun e w' (h : PE W l e w') => show e = .returned (.tuple #[Rv r.l r.h r.d r.w r.m r.y r.x, .int .i64 0]) ∧ Mod no W w' from ⟨by
      obtain ⟨_, q, c, he, ha⟩ := h
      obtain ⟨h1, h2⟩ := answer_un ha hi hr ht
      subst h1 h2
      exact he, h.1⟩))
    have HQ := Lib.hid (fun (W : World) (M : Mod no w W) => (print_p (w := W) hi (hT.mod M)).mono (fun e w' (h : _ ∧ _) => show e = .returned (.tuple #[.string (sv l), .int .i64 0]) ∧ Mod no W w' from ⟨by
      rcases h.2 with ⟨_, h⟩ | ⟨h, _⟩
      · rw [h, ht]
      · exact absurd hr h, h.1⟩))
    clear hl hP hR hi hr ht hT hV hm
    go_enter Tryd.func4, Tryd.ntmps4
    go_wp2_with (first
      | (go_at_call 7; refine HP.out.mono ?_; rintro e w2 ⟨rfl, m2⟩; have M2 := Lib.hid m2; have B2 := Lib.hid (Blk.new w2 24 #[.int .i16 r.l, .int .i16 r.h, .int .i16 r.d, .int .i16 r.w, .int .i16 r.m, .int .i16 r.y, .int .i64 r.x]); clear m2)
      | (go_at_call 8; refine (HR.out _).mono ?_; rintro e w3 ⟨rfl, m3⟩; have M3 := Lib.hid ((M2.out.alloc _).and_then m3); have B3 := Lib.hid (B2.out.mod m3 (fun c => c)); clear m3; have k0 := B3.out.cell 0; have k1 := B3.out.cell 1; have k2 := B3.out.cell 2; have k3 := B3.out.cell 3; have k4 := B3.out.cell 4; have k5 := B3.out.cell 5; have k6 := B3.out.cell 6; have hs3 := B3.out.lt)
      | (go_at_call 5; refine (HQ.out _ ?_).mono ?_; exact M3.out.alloc _; rintro e w4 ⟨rfl, m4⟩; have M4 := Lib.hid ((M3.out.alloc _).and_then m4); clear m4))
    go_ret
    exact ⟨rfl, M4.out⟩
  · have HP := Lib.hid (hP.mono (fun e w' (h : PE w l e w') => show e = .returned (.tuple #[.agg #[.int .i16 0, .int .i16 0, .int .i16 0, .int .i16 0, .int .i16 0, .int .i16 0, .int .i64 0], .int .i64 280]) ∧ Mod no w w' from ⟨by
      obtain ⟨_, q, c, he, ha⟩ := h
      obtain ⟨h1, h2⟩ := answer_zero ha hE
      subst h1 h2
      exact he, h.1⟩))
    have HR := Lib.hid (fun (W : World) => (hR W).mono (fun e w' (h : PE W l e w') => show e = .returned (.tuple #[.agg #[.int .i16 0, .int .i16 0, .int .i16 0, .int .i16 0, .int .i16 0, .int .i16 0, .int .i64 0], .int .i64 280]) ∧ Mod no W w' from ⟨by
      obtain ⟨_, q, c, he, ha⟩ := h
      obtain ⟨h1, h2⟩ := answer_zero ha hE
      subst h1 h2
      exact he, h.1⟩))
    clear hl hP hR hE hT hV hm
    go_enter Tryd.func4, Tryd.ntmps4
    go_wp2_with (first
      | (go_at_call 7; refine HP.out.mono ?_; rintro e w2 ⟨rfl, m2⟩; have M2 := Lib.hid m2; have B2 := Lib.hid (Blk.new w2 24 #[.int .i16 0, .int .i16 0, .int .i16 0, .int .i16 0, .int .i16 0, .int .i16 0, .int .i64 0]); clear m2)
      | (go_at_call 8; refine (HR.out _).mono ?_; rintro e w3 ⟨rfl, m3⟩; have M3 := Lib.hid ((M2.out.alloc _).and_then m3); have B3 := Lib.hid (B2.out.mod m3 (fun c => c)); clear m3; have k0 := B3.out.cell 0; have k1 := B3.out.cell 1; have k2 := B3.out.cell 2; have k3 := B3.out.cell 3; have k4 := B3.out.cell 4; have k5 := B3.out.cell 5; have k6 := B3.out.cell 6; have hs3 := B3.out.lt))
    go_ret
    exact ⟨rfl, M3.out.alloc _⟩
end Go.Proofs.YtoncjoelkenjnaaDoor.KR
