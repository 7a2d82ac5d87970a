/- The walks of the laws KeepTimes, KeepDays, KeepCalendar. -/
import Derived.Test.YtoncjoelkenjnaaDaysR
import Derived.Deep.DeepCutAuto
import Derived.Deep.CutBlock
namespace Go.Proofs.Ytoncjoelkenjnaa.Days
open Go.RowKit
set_option linter.unusedVariables false
set_option linter.unusedSimpArgs false

set_option maxHeartbeats 1000000 in
theorem times_law (y m d k : Int) (w : World) (hy1 : -32768 ≤ y) (hy2 : y ≤ 32767) (hm1 : -128 ≤ m) (hm2 : m ≤ 127) (hd1 : -128 ≤ d) (hd2 : d ≤ 127) :
    Calls Try.prog 4 #[.agg #[.int .i16 y, .int .i8 m, .int .i8 d, .int .i8 k]] w fun e w' => e = .returned (.bool true) ∧ Below w.heap.size w w' := by
  go_enter Try.func4, Try.ntmps4
  go_wp2_with fail
  refine (timeOf_any y m d k _ hy1 hy2 hm1 hm2 hd1 hd2).mono ?_
  rintro e w1 ⟨rfl, hb1⟩
  obtain ⟨hc, hf⟩ := bcell hb1
  unfold tuple
  go_wp2_with fail
  refine (refTimeOf_any y m d k _ hy1 hy2 hm1 hm2 hd1 hd2).mono ?_
  rintro e w2 ⟨rfl, hb2⟩
  unfold tuple
  have e1 : (secs y m d == secs y m d) = true := by simp
  have e2 : (errs y m d == errs y m d) = true := by simp
  go_wp2
  go_ret
  exact ⟨rfl, (((Below.refl _ _).alloc (Nat.le_refl _) _).trans (hb1.mono (B' := w.heap.size) (by simp))).trans (hb2.mono (B' := w.heap.size) (by have := hb1.size; simp at this; omega))⟩

set_option maxHeartbeats 1000000 in
theorem days_law (t : Int) (w : World) (h1 : -9223372036854775808 ≤ t) (h2 : t ≤ 9223372036854775807) :
    Calls Try.prog 5 #[.int .i64 t] w fun e w' => e = .returned (.bool true) ∧ Below w.heap.size w w' := by
  by_cases c : -62135596800 ≤ t ∧ t ≤ 253402300799
  · obtain ⟨n, hn⟩ : ∃ n, n = t / 86400 := ⟨_, rfl⟩
    have a1 := dayOfT_yes t
    have a2 := refDayOf_yes t
    rw [← hn] at a1 a2
    have A1 := Lib.hid a1
    have A2 := Lib.hid a2
    obtain ⟨v1, v2, v3, v4⟩ := (Cal.day_valid n (by omega)).1
    have hb := Cal.mlen_bd (Cal.dyear n) (Cal.dmonth n)
    have hy := Cal.year_bd (Cal.dyear n) (Cal.dmonth n) (Cal.dday n) (Cal.day_valid n (by omega)).1 (by rw [(Cal.day_valid n (by omega)).2]; omega) (by rw [(Cal.day_valid n (by omega)).2]; omega)
    obtain ⟨hy1, hy2⟩ := hy
    have v5 : Cal.dday n ≤ 31 := by omega
    clear a1 a2 hn v4
    generalize Cal.dyear n = y at *
    generalize Cal.dmonth n = m at *
    generalize Cal.dday n = d at *
    generalize (n + 3) % 7 = k at *
    go_enter Try.func5, Try.ntmps5
    go_wp2_with fail
    refine (A1.out _ c.1 c.2).mono ?_
    rintro e w1 ⟨rfl, hb1⟩
    go_wp2_with fail
    refine (A2.out _ c.1 c.2).mono ?_
    rintro e w2 ⟨rfl, hb2⟩
    obtain ⟨hc, hf⟩ := bcell hb2
    have hz := hb2.size
    simp only [World.size_alloc] at hz
    have hz1 : w1.heap.size < w2.heap.size := by omega
    go_wp2_with fail
    refine (timeOf_any _ _ _ _ _ (by omega) (by omega) (by omega) (by omega) (by omega) (by omega)).mono ?_
    rintro e w3 ⟨rfl, hb3⟩
    obtain ⟨hc3, hf3⟩ := bcell hb3
    have hz3 := hb3.size
    simp only [World.size_alloc] at hz3
    unfold tuple
    go_wp2_with fail
    refine (refTimeOf_any _ _ _ _ _ (by omega) (by omega) (by omega) (by omega) (by omega) (by omega)).mono ?_
    rintro e w4 ⟨rfl, hb4⟩
    unfold tuple
    have e1 : (secs y m d == secs y m d) = true := by simp
    have e2 : (errs y m d == errs y m d) = true := by simp
    go_wp2
    go_ret
    refine ⟨rfl, ?_⟩
    have hB := hb1.size
    exact (((((hb1.alloc hB _).trans (hb2.mono (B' := w.heap.size) (by simp; omega))).alloc (by omega) _).trans (hb3.mono (B' := w.heap.size) (by simp; omega)))).trans (hb4.mono (B' := w.heap.size) (by omega))
  · go_enter Try.func5, Try.ntmps5
    go_wp2_with fail
    refine (dayOfT_no t _ c).mono ?_
    rintro e w1 ⟨rfl, hb1⟩
    go_wp2_with fail
    refine (refDayOf_no t _ h1 h2 c).mono ?_
    rintro e w2 ⟨rfl, hb2⟩
    obtain ⟨hc, hf⟩ := bcell hb2
    have hz := hb2.size
    simp only [World.size_alloc] at hz
    have hz1 : w1.heap.size < w2.heap.size := by omega
    go_wp2_with fail
    refine (timeOf_any _ _ _ _ _ (by omega) (by omega) (by omega) (by omega) (by omega) (by omega)).mono ?_
    rintro e w3 ⟨rfl, hb3⟩
    obtain ⟨hc3, hf3⟩ := bcell hb3
    have hz3 := hb3.size
    simp only [World.size_alloc] at hz3
    unfold tuple
    go_wp2_with fail
    refine (refTimeOf_any _ _ _ _ _ (by omega) (by omega) (by omega) (by omega) (by omega) (by omega)).mono ?_
    rintro e w4 ⟨rfl, hb4⟩
    unfold tuple
    have e1 : (secs 0 0 0 == secs 0 0 0) = true := by simp
    have e2 : (errs 0 0 0 == errs 0 0 0) = true := by simp
    go_wp2
    go_ret
    refine ⟨rfl, ?_⟩
    have hB := hb1.size
    exact (((((hb1.alloc hB _).trans (hb2.mono (B' := w.heap.size) (by simp; omega))).alloc (by omega) _).trans (hb3.mono (B' := w.heap.size) (by simp; omega)))).trans (hb4.mono (B' := w.heap.size) (by omega))

/-- The day behind a day. -/
theorem next_any (y m d k : Int) (w : World) (h1 : 1 ≤ y) (h2 : y ≤ 9999) (h3 : 1 ≤ m) (h4 : m ≤ 12) (h5 : 1 ≤ d) (h6 : d ≤ 31) (h7 : 0 ≤ k) (h8 : k ≤ 6) :
    Calls Try.prog 19 #[.agg #[.int .i16 y, .int .i8 m, .int .i8 d, .int .i8 k]] w fun e w' => e = .returned (.agg #[.int .i16 (Cal.nextY y m d), .int .i8 (Cal.nextM y m d), .int .i8 (Cal.nextD y m d), .int .i8 ((k + 1) % 7)]) ∧ Below w.heap.size w w' := by
  go_enter Try.func19, Try.ntmps19
  go_upto_block 0 with fail
  go_cut [3] (fun v wx => v = .int .i8 (Cal.mlen y m) ∧ wx = (w.alloc (.cells #[.int .i16 y, .int .i8 m, .int .i8 d, .int .i8 k] 39)).alloc (.cells #[.int .i16 0, .int .i8 0, .int .i8 0, .int .i8 0] 39))
  case first =>
    go_wp2
    all_goals
      go_meet
      refine ⟨congrArg (Value.int IntKind.i8) ?_, rfl⟩
      simp only [beq_iff_eq, beq_eq_false_iff_ne, ne_eq] at *
      unfold Cal.mlen Cal.lp
      repeat' split
      all_goals omega
  case rest =>
    obtain ⟨rfl, rfl⟩ := hcut
    have hmb := Cal.mlen_bd y m
    go_wp2
    · refine bodyPost_ret (v := .agg #[.int .i16 (y + 1), .int .i8 1, .int .i8 1, .int .i8 ((k + 1) % 7)]) (by simp [results, Try.results19, go_sem]) rfl ⟨?_, ?_⟩
      · have e1 : Cal.nextY y m d = y + 1 := by unfold Cal.nextY; rw [if_pos (by omega)]
        have e2 : Cal.nextM y m d = 1 := by unfold Cal.nextM; rw [if_pos (by omega), if_pos (by omega)]
        have e3 : Cal.nextD y m d = 1 := by unfold Cal.nextD; rw [if_pos (by omega)]
        rw [e1, e2, e3]
      · exact ((Below.refl _ _).alloc (Nat.le_refl _) _).alloc (by simp) _
    · refine bodyPost_ret (v := .agg #[.int .i16 y, .int .i8 (m + 1), .int .i8 1, .int .i8 ((k + 1) % 7)]) (by simp [results, Try.results19, go_sem]) rfl ⟨?_, ?_⟩
      · have e1 : Cal.nextY y m d = y := by unfold Cal.nextY; rw [if_neg (by omega)]
        have e2 : Cal.nextM y m d = m + 1 := by unfold Cal.nextM; rw [if_pos (by omega), if_neg (by omega)]
        have e3 : Cal.nextD y m d = 1 := by unfold Cal.nextD; rw [if_pos (by omega)]
        rw [e1, e2, e3]
      · exact ((Below.refl _ _).alloc (Nat.le_refl _) _).alloc (by simp) _
    · refine bodyPost_ret (v := .agg #[.int .i16 y, .int .i8 m, .int .i8 (d + 1), .int .i8 ((k + 1) % 7)]) (by simp [results, Try.results19, go_sem]) rfl ⟨?_, ?_⟩
      · have e1 : Cal.nextY y m d = y := by unfold Cal.nextY; rw [if_neg (by omega)]
        have e2 : Cal.nextM y m d = m := by unfold Cal.nextM; rw [if_neg (by omega)]
        have e3 : Cal.nextD y m d = d + 1 := by unfold Cal.nextD; rw [if_neg (by omega)]
        rw [e1, e2, e3]
      · exact ((Below.refl _ _).alloc (Nat.le_refl _) _).alloc (by simp) _

/-- The first second of a time's day. -/
theorem timeOf_day (n k : Int) (w : World) (h1 : -719162 ≤ n) (h2 : n ≤ 2932896) :
    Calls Try.prog 15 #[.agg #[.int .i16 (Cal.dyear n), .int .i8 (Cal.dmonth n), .int .i8 (Cal.dday n), .int .i8 k]] w fun e w' => e = .returned (.tuple #[.int .i64 (86400 * n), .int .i64 0]) ∧ Below w.heap.size w w' := by
  have hv := Cal.day_valid n h1
  obtain ⟨v1, v2, v3, v4⟩ := hv.1
  have hb := Cal.mlen_bd (Cal.dyear n) (Cal.dmonth n)
  have hy := Cal.year_bd _ _ _ hv.1 (by rw [hv.2]; omega) (by rw [hv.2]; omega)
  have e := tuple_yes _ _ _ ⟨hy.1, hy.2, v1, v2, v3, v4⟩
  rw [Cal.number_count _ _ _ hv.1, hv.2, show n + 719162 - 719162 = n by omega] at e
  rw [e]
  exact timeOf_any _ _ _ _ _ (by omega) (by omega) (by omega) (by omega) (by omega) (by omega)

theorem day_next (n : Int) (h : -719162 ≤ n) : Cal.nextY (Cal.dyear n) (Cal.dmonth n) (Cal.dday n) = Cal.dyear (n + 1) ∧ Cal.nextM (Cal.dyear n) (Cal.dmonth n) (Cal.dday n) = Cal.dmonth (n + 1) ∧ Cal.nextD (Cal.dyear n) (Cal.dmonth n) (Cal.dday n) = Cal.dday (n + 1) := by
  have hv := Cal.day_valid n h
  have hn := Cal.next_valid _ _ _ hv.1
  have := Cal.day_of_count _ _ _ (n + 1) hn.1 (by rw [hn.2, hv.2]; omega)
  exact ⟨this.1.symm, this.2.1.symm, this.2.2.symm⟩

theorem below_call {B : Nat} {w0 w1 w2 : World} (h1 : Below B w0 w1) (h2 : Below w1.heap.size w1 w2) (hB : B ≤ w1.heap.size) : Below B w0 w2 := h1.trans (h2.mono hB)

theorem gone_eq (t : Int) : (t.tmod 86400 < 0 → 86400 * (t / 86400) = t - (t.tmod 86400 + 86400)) ∧ (¬ t.tmod 86400 < 0 → 86400 * (t / 86400) = t - t.tmod 86400) ∧ -86400 < t.tmod 86400 ∧ t.tmod 86400 < 86400 := by
  have h := tdm t 86400 (by omega)
  have e := Int.mul_tdiv_add_tmod t 86400
  have l1 := Int.lt_tmod_of_pos t (b := 86400) (by omega)
  have l2 := Int.tmod_lt_of_pos t (b := 86400) (by omega)
  refine ⟨fun c => ?_, fun c => ?_, l1, l2⟩
  · have := h.1 c; omega
  · have := h.2 c; omega

set_option maxHeartbeats 1000000 in
theorem calendar_law (t : Int) (w : World) (h1 : -9223372036854775808 ≤ t) (h2 : t ≤ 9223372036854775807) :
    Calls Try.prog 6 #[.int .i64 t] w fun e w' => e = .returned (.bool true) ∧ Below w.heap.size w w' := by
  have z1 : Cal.dyear (0 / 86400) = 1970 := by decide
  have z2 : Cal.dmonth (0 / 86400) = 1 := by decide
  have z3 : Cal.dday (0 / 86400) = 1 := by decide
  have z4 : ((0 : Int) / 86400 + 3) % 7 = 3 := by decide
  have A0 := dayOfT_yes 0
  rw [z1, z2, z3, z4] at A0
  have A := Lib.hid A0
  clear A0 z1 z2 z3 z4
  by_cases c : -62135596800 ≤ t ∧ t ≤ 253402300799
  · obtain ⟨c1, c2⟩ := c
    obtain ⟨hg, hg', hg1, hg2⟩ := gone_eq t
    have H1 := Lib.hid hg
    have H2 := Lib.hid hg'
    clear hg hg'
    have dq : -719162 ≤ t / 86400 ∧ t / 86400 ≤ 2932896 := by omega
    obtain ⟨dq1, dq2⟩ := dq
    have T1 := Lib.hid (timeOf_day (t / 86400))
    have D1 := Lib.hid (dayOfT_yes t)
    have D2 := dayOfT_yes (t + 86400)
    rw [show (t + 86400) / 86400 = t / 86400 + 1 by omega] at D2
    have D2 := Lib.hid D2
    have hdn := day_next (t / 86400) dq1
    have hv := (Cal.day_valid (t / 86400) dq1)
    have hb := Cal.mlen_bd (Cal.dyear (t / 86400)) (Cal.dmonth (t / 86400))
    have hy := Cal.year_bd _ _ _ hv.1 (by rw [hv.2]; omega) (by rw [hv.2]; omega)
    have N0 := next_any (Cal.dyear (t / 86400)) (Cal.dmonth (t / 86400)) (Cal.dday (t / 86400)) ((t / 86400 + 3) % 7)
    rw [hdn.1, hdn.2.1, hdn.2.2, show ((t / 86400 + 3) % 7 + 1) % 7 = (t / 86400 + 1 + 3) % 7 by omega] at N0
    have N := Lib.hid (fun W => N0 W hy.1 hy.2 hv.1.1 hv.1.2.1 hv.1.2.2.1 (by have := hv.1.2.2.2; omega) (by omega) (by omega))
    clear hdn hv hb hy N0
    go_enter Try.func6, Try.ntmps6
    go_wp2_with fail
    refine (A.out _ (by omega) (by omega)).mono ?_
    rintro e w1 ⟨rfl, hb1⟩
    go_wp2_with fail
    refine (D1.out _ c1 c2).mono ?_
    rintro e w2 ⟨rfl, hb2⟩
    obtain ⟨hc2, hf2⟩ := bcell hb2
    have B2 := below_call (hb1.alloc hb1.size (.cells #[.int .i16 1970, .int .i8 1, .int .i8 1, .int .i8 3] 39)) hb2 (by have := hb1.size; simp; omega)
    clear D1
    generalize hq : t / 86400 = q at *
    have HQ := Lib.hid hq
    clear hq
    generalize Cal.dyear q = y at *
    generalize Cal.dmonth q = m at *
    generalize Cal.dday q = d at *
    generalize (q + 3) % 7 = k at *
    by_cases neg : t.tmod 86400 < 0
    all_goals
      first
        | (have e := H1.out neg)
        | (have e := H2.out (by omega))
      go_wp2_with fail
      refine (T1.out _ _ dq1 dq2).mono ?_
      rintro e3 w3 ⟨rfl, hb3⟩
      obtain ⟨hc3, hf3⟩ := bcell hb3
      have hz3 := hb3.size
      simp only [World.size_alloc] at hz3
      have B3 := below_call (B2.alloc B2.size (.cells #[.int .i16 y, .int .i8 m, .int .i8 d, .int .i8 k] 39)) hb3 (by have := B2.size; simp; omega)
      first
        | (have e2 : (86400 * q != t - (t.tmod 86400 + 86400)) = false := by simpa using e)
        | (have e2 : (86400 * q != t - t.tmod 86400) = false := by simpa using e)
      clear e
      by_cases hl : 253402214399 < t
      · have et : t.tmod 86400 = t % 86400 := Int.tmod_eq_emod_of_nonneg (by omega)
        first
          | (exfalso; omega)
          | (rw [et] at e2
             clear et
             go_wp2_with fail
             go_ret
             exact ⟨rfl, B3⟩)
      · go_wp2_with fail
        refine (D2.out _ (by omega) (by omega)).mono ?_
        rintro e4 w4 ⟨rfl, hb4⟩
        obtain ⟨hc4, hf4⟩ := bcell hb4
        have hz4 := hb4.size
        have B4 := below_call B3 hb4 B3.size
        have hz2 : w2.heap.size < w4.heap.size := by omega
        go_wp2_with fail
        generalize Cal.dyear (q + 1) = y' at *
        generalize Cal.dmonth (q + 1) = m' at *
        generalize Cal.dday (q + 1) = d' at *
        generalize (q + 1 + 3) % 7 = k' at *
        obtain ⟨w5, hw5⟩ : ∃ w5, w5 = w4.alloc (.cells #[.int .i16 y', .int .i8 m', .int .i8 d', .int .i8 k'] 39) := ⟨_, rfl⟩
        have c0 : w5.cell? ⟨w4.heap.size, 0, none⟩ = some (.int .i16 y') := by rw [hw5]; exact new_cell w4 _ _ 0
        have c1 : w5.cell? ⟨w4.heap.size, 1, none⟩ = some (.int .i8 m') := by rw [hw5]; exact new_cell w4 _ _ 1
        have c2 : w5.cell? ⟨w4.heap.size, 2, none⟩ = some (.int .i8 d') := by rw [hw5]; exact new_cell w4 _ _ 2
        have c3 : w5.cell? ⟨w4.heap.size, 3, none⟩ = some (.int .i8 k') := by rw [hw5]; exact new_cell w4 _ _ 3
        have old : ∀ i, w5.cell? ⟨w2.heap.size, i, none⟩ = (w2.alloc (.cells #[.int .i16 y, .int .i8 m, .int .i8 d, .int .i8 k] 39)).cell? ⟨w2.heap.size, i, none⟩ := by
          intro i
          rw [hw5, World.cell?_alloc_lt _ _ _ hz2, hc4 _ _ (by omega), hc3 _ _ (by simp)]
        have o0 : w5.cell? ⟨w2.heap.size, 0, none⟩ = some (.int .i16 y) := (old 0).trans (new_cell w2 _ _ 0)
        have o1 : w5.cell? ⟨w2.heap.size, 1, none⟩ = some (.int .i8 m) := (old 1).trans (new_cell w2 _ _ 1)
        have o2 : w5.cell? ⟨w2.heap.size, 2, none⟩ = some (.int .i8 d) := (old 2).trans (new_cell w2 _ _ 2)
        have o3 : w5.cell? ⟨w2.heap.size, 3, none⟩ = some (.int .i8 k) := (old 3).trans (new_cell w2 _ _ 3)
        have B5 : Below w.heap.size w w5 := by rw [hw5]; exact B4.alloc B4.size _
        have s5 : w4.heap.size < w5.heap.size := by rw [hw5]; simp
        have s6 : w2.heap.size < w5.heap.size := by omega
        rw [← hw5]
        clear hw5 old
        go_region_held3 (fun w' => w'.cell? ⟨w4.heap.size, 0, none⟩ = some (.int .i16 y') ∧ w'.cell? ⟨w4.heap.size, 1, none⟩ = some (.int .i8 m') ∧ w'.cell? ⟨w4.heap.size, 2, none⟩ = some (.int .i8 d') ∧ w'.cell? ⟨w4.heap.size, 3, none⟩ = some (.int .i8 k') ∧
            w'.cell? ⟨w2.heap.size, 0, none⟩ = some (.int .i16 y) ∧ w'.cell? ⟨w2.heap.size, 1, none⟩ = some (.int .i8 m) ∧ w'.cell? ⟨w2.heap.size, 2, none⟩ = some (.int .i8 d) ∧ w'.cell? ⟨w2.heap.size, 3, none⟩ = some (.int .i8 k))
          (first | exact ⟨c0, c1, c2, c3, o0, o1, o2, o3⟩ | exact ⟨(hb6.cell (p := ⟨w4.heap.size, 0, none⟩) s5).trans c0, (hb6.cell (p := ⟨w4.heap.size, 1, none⟩) s5).trans c1, (hb6.cell (p := ⟨w4.heap.size, 2, none⟩) s5).trans c2, (hb6.cell (p := ⟨w4.heap.size, 3, none⟩) s5).trans c3, (hb6.cell (p := ⟨w2.heap.size, 0, none⟩) s6).trans o0, (hb6.cell (p := ⟨w2.heap.size, 1, none⟩) s6).trans o1, (hb6.cell (p := ⟨w2.heap.size, 2, none⟩) s6).trans o2, (hb6.cell (p := ⟨w2.heap.size, 3, none⟩) s6).trans o3⟩)
          (first | (go_at_call 19; refine (N.out _).mono ?_; rintro e w6 ⟨rfl, hb6⟩))
        go_wp2
        go_ret
        exact ⟨rfl, below_call B5.drew hb6 B5.size⟩
  · have c' : t < -62135596800 ∨ (-62135596800 ≤ t ∧ 253402300799 < t) := by omega
    rcases c' with c1 | ⟨c1, c2⟩
    all_goals
      go_enter Try.func6, Try.ntmps6
      go_wp2_with fail
      refine (A.out _ (by omega) (by omega)).mono ?_
      rintro e w1 ⟨rfl, hb1⟩
      go_wp2_with fail
      refine (dayOfT_no t _ c).mono ?_
      rintro e w2 ⟨rfl, hb2⟩
      obtain ⟨hc2, hf2⟩ := bcell hb2
      have B2 := below_call (hb1.alloc hb1.size (.cells #[.int .i16 1970, .int .i8 1, .int .i8 1, .int .i8 3] 39)) hb2 (by have := hb1.size; simp; omega)
      go_wp2_with fail
      go_ret
      exact ⟨rfl, B2.alloc B2.size _⟩
end Go.Proofs.Ytoncjoelkenjnaa.Days
