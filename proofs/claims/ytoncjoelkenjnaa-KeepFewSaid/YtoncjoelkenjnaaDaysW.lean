/- The walks of keep's calendar functions. -/
import Derived.Test.YtoncjoelkenjnaaChecked
import Derived.Test.YtoncjoelkenjnaaCal
import Derived.WalkKit
import Derived.WalkLawsBesides
import Derived.Lib.Hide
import Derived.Deep.QuietTactic
import Derived.BigQuiet
import Derived.Deep.RegionHeld3
namespace Go.Proofs.Ytoncjoelkenjnaa.Days
open Go.RowKit
set_option linter.unusedVariables false
set_option linter.unusedSimpArgs false

theorem quiet_left {P : Program} {f : FuncId} {args : Array Value} {w : World} {n : Nat} {v : Value}
    (h : Calls P f args (w.drewN n) fun e w' => e = .returned v ∧ w.drewN n = w') : Calls P f args (w.drewN n) fun e w' => e = .returned v ∧ ∃ m, w' = w.drewN m :=
  h.mono fun _ _ ⟨he, hm⟩ => ⟨he, n, hm.symm⟩

theorem new_cell (w : World) (cs : Array Value) (t : TypeId) (i : Nat) : (w.alloc (.cells cs t)).cell? ⟨w.heap.size, i, none⟩ = cs[i]? :=
  cell_of_row _ _ i cs t (0, 0) (heap_alloc_new w _)

theorem bcell {W W' : World} {B : Nat} (hb : Below B W W') :
    (∀ b o, b < B → W'.cell? ⟨b, o, none⟩ = W.cell? ⟨b, o, none⟩) ∧ (∀ b o, b < B → W'.frozen? ⟨b, o, none⟩ = W.frozen? ⟨b, o, none⟩) :=
  ⟨fun b o h => hb.cell (p := ⟨b, o, none⟩) h, fun b o h => hb.frozen (p := ⟨b, o, none⟩) h⟩

theorem ret_int {k : IntKind} {a b : Int} (h : a = b) : Ending.returned (.int k a) = .returned (.int k b) := by rw [h]

theorem ret2 {k l : IntKind} {a b c d : Int} (h : a = b) (h2 : c = d) : Ending.returned (.tuple #[.int k a, .int l c]) = .returned (.tuple #[.int k b, .int l d]) := by rw [h, h2]

theorem tdm (a b : Int) (hb : 0 < b) : (a.tmod b < 0 → a.tdiv b - 1 = a / b) ∧ (¬ a.tmod b < 0 → a.tdiv b = a / b) := by
  have e1 := Int.mul_tdiv_add_tmod a b
  have hlt : a.tmod b < b := Int.tmod_lt_of_pos a hb
  have hgt : -b < a.tmod b := by
    have := Int.lt_tmod_of_pos a hb
    omega
  have hc := Int.mul_comm (a.tdiv b) b
  constructor
  · intro h
    symm
    refine (Int.ediv_eq_iff_of_pos hb).2 ?_
    rw [Int.sub_mul, Int.one_mul]; omega
  · intro h
    symm
    refine (Int.ediv_eq_iff_of_pos hb).2 ?_
    omega
theorem quo_bd (a b : Int) (ha : -4611686018427387904 ≤ a) (ha2 : a ≤ 4611686018427387904) (hb : 1 ≤ b) : -4611686018427387904 ≤ a.tdiv b ∧ a.tdiv b ≤ 4611686018427387904 := by
  have h : (a.tdiv b).natAbs ≤ a.natAbs := by
    rw [Int.natAbs_tdiv]; exact Nat.div_le_self _ _
  omega
theorem fl_bd (a b : Int) (h : -4611686018427387904 ≤ a) (h2 : a ≤ 4611686018427387904) (hb : 1 ≤ b) : -4611686018427387905 ≤ a / b ∧ a / b ≤ 4611686018427387904 := by
  have h1 := quo_bd a b h h2 hb
  have h2 := tdm a b (by omega)
  by_cases c : a.tmod b < 0
  · have := h2.1 c; omega
  · have := h2.2 c; omega

/-- A test on a remainder, behind a name. -/
def nonneg (a b : Int) : Prop := 0 ≤ a.tmod b

theorem floor_any (a b : Int) (w : World) (ha : -4611686018427387904 ≤ a) (ha2 : a ≤ 4611686018427387904) (hb : 1 ≤ b) :
    Calls Try.prog 33 #[.int .i64 a, .int .i64 b] w fun e w' => e = .returned (.int .i64 (a / b)) ∧ w = w' := by
  have hx := Lib.hid (tdm a b (by omega))
  have hq := quo_bd a b ha ha2 hb
  go_enter Try.func33, Try.ntmps33
  go_wp2
  · go_ret
    exact ⟨ret_int (hx.out.1 ‹_›), rfl⟩
  · go_ret
    exact ⟨ret_int (hx.out.2 (by omega)), rfl⟩

theorem left_val (a b : Int) (ha : -4611686018427387904 ≤ a) (ha2 : a ≤ 4611686018427387904) (hb : 1 ≤ b) (hb2 : b ≤ 4294967296) : wrap64 (a - wrap64 (b * (a / b))) = a % b := by
  have e := Int.mul_ediv_add_emod a b
  have e1 := Int.emod_nonneg a (b := b) (by omega)
  have e2 := Int.emod_lt_of_pos a (b := b) (by omega)
  rw [IntWalk.wrap64_in (b * (a / b)) (by omega), IntWalk.wrap64_in _ (by omega)]
  omega
theorem left_any (a b : Int) (w : World) (ha : -4611686018427387904 ≤ a) (ha2 : a ≤ 4611686018427387904) (hb : 1 ≤ b) (hb2 : b ≤ 4294967296) :
    Calls Try.prog 44 #[.int .i64 a, .int .i64 b] w fun e w' => e = .returned (.int .i64 (a % b)) ∧ w = w' := by
  have hf := fl_bd a b ha ha2 hb
  go_enter Try.func44, Try.ntmps44
  go_wp2_with (go_at_call 33; refine (floor_any _ _ _ (by omega) (by omega) (by omega)).mono ?_; rintro e w' ⟨rfl, rfl⟩)
  go_ret
  exact ⟨ret_int (left_val a b ha ha2 hb hb2), rfl⟩

theorem down_val (a b : Int) (ha : -4611686018427387904 ≤ a) (ha2 : a ≤ 4611686018427387904) (hb : 1 ≤ b) :
    ((wrap64 (a.tdiv b * b) != a) = true → a < 0 → a.tdiv b - 1 = a / b) ∧ ((wrap64 (a.tdiv b * b) != a) = false → a.tdiv b = a / b) ∧ (0 ≤ a → a.tdiv b = a / b) := by
  have h := tdm a b (by omega)
  have e1 := Int.mul_tdiv_add_tmod a b
  have hc := Int.mul_comm (a.tdiv b) b
  have hz : a < 0 → a.tmod b ≤ 0 := fun h => by
    have := Int.tmod_nonneg (a := -a) b (by omega)
    rw [Int.neg_tmod] at this; omega
  have hz2 : -b < a.tmod b := Int.lt_tmod_of_pos a (by omega)
  have hp : 0 ≤ a → 0 ≤ a.tmod b := fun h => Int.tmod_nonneg b h
  have hx : a < 0 → -9223372036854775808 ≤ a.tdiv b * b ∧ a.tdiv b * b ≤ 9223372036854775807 := fun hn => by
    have := hz hn
    have hle : -a.tmod b ≤ -a := by
      have h1 : ((-a).tmod b) ≤ -a := by
        rw [Int.tmod_eq_emod_of_nonneg (by omega)]; have := Int.mul_ediv_add_emod (-a) b; have := Int.mul_nonneg (a := b) (b := -a / b) (by omega) (Int.ediv_nonneg (by omega) (by omega)); omega
      rwa [Int.neg_tmod] at h1
    omega
  refine ⟨fun h1 hn => ?_, fun h1 => ?_, fun hn => h.2 (by have := hp hn; omega)⟩
  · rw [IntWalk.wrap64_in _ (hx hn), bne_iff_ne] at h1
    refine h.1 ?_
    have := hz hn; omega
  · refine h.2 ?_
    by_cases hn : a < 0
    · rw [IntWalk.wrap64_in _ (hx hn)] at h1
      have : a.tdiv b * b = a := by simpa using h1
      omega
    · have := hp (by omega); omega

theorem down_any (a b : Int) (w : World) (ha : -4611686018427387904 ≤ a) (ha2 : a ≤ 4611686018427387904) (hb : 1 ≤ b) :
    Calls Try.prog 34 #[.int .i64 a, .int .i64 b] w fun e w' => e = .returned (.int .i64 (a / b)) ∧ w = w' := by
  have hq := quo_bd a b ha ha2 hb
  have hx := Lib.hid (down_val a b ha ha2 hb)
  go_enter Try.func34, Try.ntmps34
  go_wp2
  · go_ret
    exact ⟨ret_int (hx.out.1 ‹_› ‹_›), rfl⟩
  · go_ret
    exact ⟨ret_int (hx.out.2.1 ‹_›), rfl⟩
  · go_ret
    exact ⟨ret_int (hx.out.2.2 ‹_›), rfl⟩

def insideB (t : Int) : Bool := decide (-62135596800 ≤ t) && decide (t ≤ 253402300799)

theorem inside_any (t : Int) (w : World) :
    Calls Try.prog 32 #[.int .i64 t] w fun e w' => e = .returned (.bool (insideB t)) ∧ w = w' := by
  by_cases h1 : -62135596800 ≤ t
  · go_enter Try.func32, Try.ntmps32
    go_wp2
    go_ret
    exact ⟨by simp [insideB, h1], rfl⟩
  · go_enter Try.func32, Try.ntmps32
    go_wp2
    go_ret
    exact ⟨by simp [insideB]; omega, rfl⟩

theorem number_any (y m d k : Int) (w : World) (h1 : 1 ≤ y) (h2 : y ≤ 9999) (h3 : 1 ≤ m) (h4 : m ≤ 12) (h5 : 1 ≤ d) (h6 : d ≤ 31) :
    Calls Try.prog 28 #[.agg #[.int .i16 y, .int .i8 m, .int .i8 d, .int .i8 k]] w fun e w' => e = .returned (.int .i64 (Cal.number y m d)) ∧ Below w.heap.size w w' := by
  go_enter Try.func28, Try.ntmps28
  go_wp2_with fail
  go_region
  go_wp2_with (first
    | (go_at_call 33; refine (floor_any _ _ _ (by omega) (by omega) (by omega)).mono ?_; rintro e w' ⟨rfl, rfl⟩)
    | (go_at_call 44; refine (left_any _ _ _ (by omega) (by omega) (by omega) (by omega)).mono ?_; rintro e w' ⟨rfl, rfl⟩))
  all_goals
    go_ret
    refine ⟨ret_int ?_, ?_⟩
    · unfold Cal.number Cal.year' Cal.mp'
      first
        | (rw [if_pos (by assumption), if_pos (by assumption)])
        | (rw [if_neg (by omega), if_neg (by omega)])
    · exact ((Below.refl _ _).alloc (Nat.le_refl _) _).drew

theorem leap_any (y : Int) (w : World) (h1 : 0 ≤ y) (h2 : y ≤ 10000) :
    Calls Try.prog 55 #[.int .i64 y] w fun e w' => e = .returned (.bool (decide (Cal.lp y = 1))) ∧ w = w' := by
  go_enter Try.func55, Try.ntmps55
  go_wp2
  · go_ret
    exact ⟨by have : y % 4 = 0 := ‹_›; have : y % 100 = 0 := ‹_›; simp [Cal.lp, *]; rfl, rfl⟩
  · go_ret
    exact ⟨by have : y % 4 = 0 := ‹_›; have : ¬ y % 100 = 0 := ‹_›; simp [Cal.lp, *], rfl⟩
  · go_ret
    exact ⟨by have : ¬ y % 4 = 0 := ‹_›; simp [Cal.lp, *], rfl⟩

theorem upTo_any (y : Int) (w : World) (h1 : 1 ≤ y) (h2 : y ≤ 10000) :
    Calls Try.prog 31 #[.int .i64 y] w fun e w' => e = .returned (.int .i64 (Cal.upTo y)) ∧ w = w' := by
  go_enter Try.func31, Try.ntmps31
  go_wp2
  go_ret
  exact ⟨rfl, rfl⟩

set_option maxHeartbeats 400000 in
theorem dayOf_any (n : Int) (w : World) (h1 : -719162 ≤ n) (h2 : n ≤ 3652058) :
    Calls Try.prog 29 #[.int .i64 n] w fun e w' => e = .returned (.agg #[.int .i16 (Cal.dyear n), .int .i8 (Cal.dmonth n), .int .i8 (Cal.dday n), .int .i8 ((n + 3) % 7)]) ∧ Below w.heap.size w w' := by
  obtain ⟨b1, b2, b3, b4, b5, b6⟩ := Cal.day_bd n h1
  have b7 : 1 ≤ Cal.dday n ∧ Cal.dday n ≤ 31 := by
    have hd := (Cal.day_valid n h1).1
    have := Cal.mlen_bd (Cal.dyear n) (Cal.dmonth n)
    have := hd.2.2
    omega
  obtain ⟨b7, b8⟩ := b7
  have y1 : Cal.mp n + 3 > 12 → Cal.dyear n = 400 * Cal.era n + Cal.yoe n + 1 ∧ Cal.dmonth n = Cal.mp n + 3 - 12 := fun h => by unfold Cal.dyear Cal.dmonth; rw [if_pos h, if_pos h]; exact ⟨rfl, rfl⟩
  have y2 : ¬ Cal.mp n + 3 > 12 → Cal.dyear n = 400 * Cal.era n + Cal.yoe n ∧ Cal.dmonth n = Cal.mp n + 3 := fun h => by unfold Cal.dyear Cal.dmonth; rw [if_neg h, if_neg h]; exact ⟨rfl, rfl⟩
  have Y1 := Lib.hid y1
  have Y2 := Lib.hid y2
  clear y1 y2
  have f1 : (n + 719468) % 146097 = Cal.doe n := rfl
  have f2 : (n + 719468) / 146097 = Cal.era n := rfl
  have f3 : (Cal.doe n - Cal.doe n / 1460 + Cal.doe n / 36524 - Cal.doe n / 146096) / 365 = Cal.yoe n := rfl
  have f4 : Cal.doe n - (365 * Cal.yoe n + Cal.yoe n / 4 - Cal.yoe n / 100) = Cal.doy n := rfl
  have f5 : (5 * Cal.doy n + 2) / 153 = Cal.mp n := rfl
  have f6 : Cal.doy n - (153 * Cal.mp n + 2) / 5 + 1 = Cal.dday n := rfl
  go_enter Try.func29, Try.ntmps29
  go_wp2_with (first
    | (go_at_call 33; refine (floor_any _ _ _ (by omega) (by omega) (by omega)).mono ?_; rintro e w' ⟨rfl, rfl⟩)
    | (go_at_call 44; refine (left_any _ _ _ (by omega) (by omega) (by omega) (by omega)).mono ?_; rintro e w' ⟨rfl, rfl⟩))
  · obtain ⟨e1, e2⟩ := Y1.out (by omega)
    rw [e1, e2]
    refine bodyPost_ret (v := .agg #[.int .i16 (400 * Cal.era n + Cal.yoe n + 1), .int .i8 (Cal.mp n + 3 - 12), .int .i8 (Cal.dday n), .int .i8 ((n + 3) % 7)]) ?_ rfl ⟨rfl, ?_⟩
    · simp [results, Try.results29, go_sem]
    · exact ((Below.refl _ _).alloc (Nat.le_refl _) _).alloc (by simp) _
  · obtain ⟨e1, e2⟩ := Y2.out (by omega)
    rw [e1, e2]
    refine bodyPost_ret (v := .agg #[.int .i16 (400 * Cal.era n + Cal.yoe n), .int .i8 (Cal.mp n + 3), .int .i8 (Cal.dday n), .int .i8 ((n + 3) % 7)]) ?_ rfl ⟨rfl, ?_⟩
    · simp [results, Try.results29, go_sem]
    · exact ((Below.refl _ _).alloc (Nat.le_refl _) _).alloc (by simp) _

theorem length_any (y : Int) (w : World) (h1 : 0 ≤ y) (h2 : y ≤ 10000) :
    Calls Try.prog 45 #[.int .i64 y] w fun e w' => e = .returned (.int .i64 (365 + Cal.lp y)) ∧ w = w' := by
  rcases Cal.lp_01 y with h | h
  all_goals
    have hb : decide (Cal.lp y = 1) = decide (Cal.lp y = 1) := rfl
    rw [h]
    have H := Lib.hid h
    first
      | (have hd : decide (Cal.lp y = 1) = true := by simp [h])
      | (have hd : decide (Cal.lp y = 1) = false := by simp [h])
    clear h hb
    go_enter Try.func45, Try.ntmps45
    go_wp2_with (go_at_call 55; refine (leap_any _ _ (by omega) (by omega)).mono ?_; rintro e w' ⟨rfl, rfl⟩)
    go_ret
    exact ⟨rfl, rfl⟩

theorem month_any (y m : Int) (w : World) (h1 : 0 ≤ y) (h2 : y ≤ 10000) (h3 : 1 ≤ m) (h4 : m ≤ 12) :
    Calls Try.prog 30 #[.int .i64 y, .int .i64 m] w fun e w' => e = .returned (.int .i64 (Cal.mlen y m)) ∧ w = w' := by
  have hl := Cal.lp_01 y
  have hx : Cal.mlen y m = Cal.mlen y m := rfl
  unfold Cal.mlen at hx
  have H := Lib.hid hx
  clear hx
  go_enter Try.func30, Try.ntmps30
  go_wp2_with (go_at_call 45; refine (length_any _ _ (by omega) (by omega)).mono ?_; rintro e w' ⟨rfl, rfl⟩)
  all_goals
    simp only [beq_iff_eq, beq_eq_false_iff_ne, ne_eq] at *
    go_ret
    refine ⟨ret_int ?_, rfl⟩
    unfold Cal.mlen
    first
      | (rw [if_pos (by omega)]; omega)
      | (rw [if_neg (by omega), if_pos (by omega)])
      | (rw [if_neg (by omega), if_neg (by omega)])

/-- Is it a date that TimeOf takes? -/
def okB (y m d : Int) : Bool := decide (1 ≤ y ∧ y ≤ 9999 ∧ 1 ≤ m ∧ m ≤ 12 ∧ 1 ≤ d ∧ d ≤ Cal.mlen y m)
def secs (y m d : Int) : Int := if okB y m d = true then 86400 * Cal.number y m d else 0
def errs (y m d : Int) : Int := if okB y m d = true then 0 else 281
def tuple (y m d : Int) : Value := .tuple #[.int .i64 (secs y m d), .int .i64 (errs y m d)]
theorem tuple_no (y m d : Int) (h : ¬ (1 ≤ y ∧ y ≤ 9999 ∧ 1 ≤ m ∧ m ≤ 12 ∧ 1 ≤ d ∧ d ≤ Cal.mlen y m)) : Value.tuple #[.int .i64 0, .int .i64 281] = tuple y m d := by
  have : okB y m d = false := decide_eq_false h
  simp [tuple, secs, errs, this]
theorem tuple_yes (y m d : Int) (h : 1 ≤ y ∧ y ≤ 9999 ∧ 1 ≤ m ∧ m ≤ 12 ∧ 1 ≤ d ∧ d ≤ Cal.mlen y m) : Value.tuple #[.int .i64 (86400 * Cal.number y m d), .int .i64 0] = tuple y m d := by
  have : okB y m d = true := decide_eq_true h
  simp [tuple, secs, errs, this]
theorem ret_no (y m d : Int) (h : ¬ (1 ≤ y ∧ y ≤ 9999 ∧ 1 ≤ m ∧ m ≤ 12 ∧ 1 ≤ d ∧ d ≤ Cal.mlen y m)) : Ending.returned (.tuple #[.int .i64 0, .int .i64 281]) = .returned (tuple y m d) := by rw [tuple_no y m d h]
theorem ret_yes (y m d v : Int) (h : 1 ≤ y ∧ y ≤ 9999 ∧ 1 ≤ m ∧ m ≤ 12 ∧ 1 ≤ d ∧ d ≤ Cal.mlen y m) (hv : v = 86400 * Cal.number y m d) : Ending.returned (.tuple #[.int .i64 v, .int .i64 0]) = .returned (tuple y m d) := by rw [← tuple_yes y m d h, hv]
theorem number_bd (y m d : Int) (h1 : 1 ≤ y) (h2 : y ≤ 9999) (h3 : 1 ≤ m) (h4 : m ≤ 12) (h5 : 1 ≤ d) (h6 : d ≤ 31) : -719162 ≤ Cal.number y m d ∧ Cal.number y m d ≤ 2933300 := by
  have e := Cal.number_upTo y m d h3 h4
  have a := Cal.upTo_bd y (by omega) (by omega)
  have b := Cal.cum_bd y m (by omega) (by omega)
  have := Cal.lp_01 y
  omega

theorem run_field_day (a b c e : Value) (w : World) : (Instr.field 39 (.agg #[a, b, c, e]) 1).run Try.prog w = .ok b w := by kernel_rfl

set_option maxHeartbeats 400000 in
theorem timeOf_any (y m d k : Int) (w : World) (hy1 : -32768 ≤ y) (hy2 : y ≤ 32767) (hm1 : -128 ≤ m) (hm2 : m ≤ 127) (hd1 : -128 ≤ d) (hd2 : d ≤ 127) :
    Calls Try.prog 15 #[.agg #[.int .i16 y, .int .i8 m, .int .i8 d, .int .i8 k]] w fun e w' => e = .returned (tuple y m d) ∧ Below w.heap.size w w' := by
  go_enter Try.func15, Try.ntmps15
  go_wp2_with (first
    | (go_at_call 28; refine (number_any _ _ _ _ _ (by omega) (by omega) (by omega) (by omega) (by omega) (by omega)).mono ?_; rintro e w1 ⟨rfl, hb1⟩; have hn := number_bd y m d (by omega) (by omega) (by omega) (by omega) (by omega) (by omega))
    | (go_at_call 29; refine (dayOf_any _ _ (by omega) (by omega)).mono ?_; rintro e w2 ⟨rfl, hb2⟩))
  all_goals first
    | (go_ret2; exact ⟨ret_no y m d (by have := Cal.mlen_bd y m; omega), (Below.refl _ _).alloc (Nat.le_refl _) _⟩)
    | skip
  have hsz := hb1.size
  simp only [World.size_alloc] at hsz
  have hfl := run_field_day
  have hc1 : w1.cell? ⟨w.heap.size, 1, none⟩ = some (.int .i8 m) := (hb1.cell (p := ⟨w.heap.size, 1, none⟩) (by simp)).trans (new_cell w _ _ 1)
  go_region_held3 (fun w' => w'.cell? ⟨w.heap.size, 1, none⟩ = some (.int .i8 m)) (first | exact hc1 | exact (hb2.cell (p := ⟨w.heap.size, 1, none⟩) hsz).trans hc1)
    (first | (go_at_call 29; refine (dayOf_any _ _ (by omega) (by omega)).mono ?_; rintro e w2 ⟨rfl, hb2⟩))
  have HB : Below w.heap.size w w2 := (((Below.refl _ _).alloc (Nat.le_refl _) _).trans (hb1.mono (B' := w.heap.size) (by simp))).drew.trans (hb2.mono (B' := w.heap.size) (Nat.le_of_lt hsz))
  by_cases c6 : d ≤ Cal.mlen y m
  · have hm := (Cal.day_number y m d ⟨by omega, by omega, by omega, c6⟩).2.1
    have h0 : (Cal.dmonth (Cal.number y m d) != m) = false := by simp [hm]
    clear hm
    go_wp2
    go_ret2
    exact ⟨ret_yes y m d _ ⟨by omega, by omega, by omega, by omega, by omega, c6⟩ (by omega), HB⟩
  · have hm := Cal.month_over y m d (by omega) (by omega) (by omega) (by omega)
    have h0 : (Cal.dmonth (Cal.number y m d) != m) = true := by simpa using hm
    clear hm
    go_wp2
    go_ret2
    exact ⟨ret_no y m d (by omega), HB⟩

theorem below_drewN {B : Nat} {a w : World} (h : Below B a w) (n : Nat) : Below B a (w.drewN n) := ⟨h.os, h.tape, h.output, h.size, h.block⟩

set_option maxHeartbeats 1000000 in
theorem refTimeOf_any (y m d k : Int) (w : World) (hy1 : -32768 ≤ y) (hy2 : y ≤ 32767) (hm1 : -128 ≤ m) (hm2 : m ≤ 127) (hd1 : -128 ≤ d) (hd2 : d ≤ 127) :
    Calls Try.prog 16 #[.agg #[.int .i16 y, .int .i8 m, .int .i8 d, .int .i8 k]] w fun e w' => e = .returned (tuple y m d) ∧ Below w.heap.size w w' := by
  have ed : IntKind.i64.wrap d = d := IntWalk.i64_in _ (by omega)
  by_cases c : 1 ≤ y ∧ y ≤ 9999 ∧ 1 ≤ m ∧ m ≤ 12 ∧ 1 ≤ d
  · obtain ⟨c1, c2, c3, c4, c5⟩ := c
    have hl := Cal.mlen_bd y m
    have b1 : decide (y < 1) = false := by simpa using c1
    have b2 : decide (9999 < y) = false := by simpa using c2
    have b3 : decide (m < 1) = false := by simpa using c3
    have b4 : decide (12 < m) = false := by simpa using c4
    have b5 : decide (d < 1) = false := by simpa using c5
    by_cases c6 : d ≤ Cal.mlen y m
    · have b6 : decide (Cal.mlen y m < d) = false := by simpa using c6
      rw [← tuple_yes y m d ⟨c1, c2, c3, c4, c5, c6⟩]
      go_enter Try.func16, Try.ntmps16
      go_wp2_with fail
      go_quiet ((go_at_call 30; exact quiet_left (month_any _ _ _ (by omega) (by omega) (by omega) (by omega))))
      go_wp2_with (go_at_call 31; refine (upTo_any _ _ (by omega) (by omega)).mono ?_; rintro e w1 ⟨rfl, rfl⟩)
      have hc1 : 1 ≤ m := c3
      go_loop [6, 7] (fun n i => ∃ k : Int, 1 ≤ k ∧ k ≤ m ∧ i = .int .i64 k ∧ n = .int .i64 (Cal.upTo y + Cal.cum y k)) (fun _ i => (m - intOf i).toNat)
      case atStart => exact ⟨1, by omega, by omega, rfl, by simp [Cal.cum]⟩
      case round =>
        obtain ⟨k, hk1, hk2, rfl, rfl⟩ := hrel
        have hu := Cal.upTo_bd y (by omega) (by omega)
        have hcb := Cal.cum_bd y k (by omega) (by omega)
        have hmb := Cal.mlen_bd y k
        have hlp := Cal.lp_01 y
        have hcs := Lib.hid (Cal.cum_succ y k (by omega) (by omega))
        by_cases hlt : k < m
        · go_wp2_with (go_at_call 30; refine (month_any _ _ _ (by omega) (by omega) (by omega) (by omega)).mono ?_; rintro e w1 ⟨rfl, rfl⟩)
          go_round
          case rel => exact ⟨k + 1, by omega, by omega, rfl, by rw [hcs.out]; go_num⟩
          case measure => simp [intOf]; omega
        · obtain rfl : k = m := by omega
          have ho := Lib.hid (Cal.number_upTo y k d (by omega) (by omega))
          go_wp2
          go_ret2
          refine ⟨ret2 ?_ rfl, below_drewN ((Below.refl _ _).alloc (Nat.le_refl _) _) _⟩
          have := ho.out
          omega
    · have b6 : decide (Cal.mlen y m < d) = true := by simp; omega
      rw [← tuple_no y m d (by omega)]
      go_enter Try.func16, Try.ntmps16
      go_wp2_with fail
      go_quiet ((go_at_call 30; exact quiet_left (month_any _ _ _ (by omega) (by omega) (by omega) (by omega))))
      go_wp2_with fail
      go_ret2
      exact ⟨rfl, below_drewN ((Below.refl _ _).alloc (Nat.le_refl _) _) _⟩
  · rw [← tuple_no y m d (by omega)]
    have cc : y < 1 ∨ (1 ≤ y ∧ 9999 < y) ∨ (1 ≤ y ∧ y ≤ 9999 ∧ m < 1) ∨ (1 ≤ y ∧ y ≤ 9999 ∧ 1 ≤ m ∧ 12 < m) ∨ (1 ≤ y ∧ y ≤ 9999 ∧ 1 ≤ m ∧ m ≤ 12 ∧ d < 1) := by omega
    clear c
    rcases cc with c1 | ⟨c1, c2⟩ | ⟨c1, c2, c3⟩ | ⟨c1, c2, c3, c4⟩ | ⟨c1, c2, c3, c4, c5⟩
    · have b1 : decide (y < 1) = true := by simpa using c1
      go_enter Try.func16, Try.ntmps16
      go_wp2_with fail
      go_quiet (fail)
      go_wp2_with fail
      go_ret2
      exact ⟨rfl, below_drewN ((Below.refl _ _).alloc (Nat.le_refl _) _) _⟩
    · have b1 : decide (y < 1) = false := by simpa using c1
      have b2 : decide (9999 < y) = true := by simpa using c2
      go_enter Try.func16, Try.ntmps16
      go_wp2_with fail
      go_quiet (fail)
      go_wp2_with fail
      go_ret2
      exact ⟨rfl, below_drewN ((Below.refl _ _).alloc (Nat.le_refl _) _) _⟩
    · have b1 : decide (y < 1) = false := by simpa using c1
      have b2 : decide (9999 < y) = false := by simpa using c2
      have b3 : decide (m < 1) = true := by simpa using c3
      go_enter Try.func16, Try.ntmps16
      go_wp2_with fail
      go_quiet (fail)
      go_wp2_with fail
      go_ret2
      exact ⟨rfl, below_drewN ((Below.refl _ _).alloc (Nat.le_refl _) _) _⟩
    · have b1 : decide (y < 1) = false := by simpa using c1
      have b2 : decide (9999 < y) = false := by simpa using c2
      have b3 : decide (m < 1) = false := by simpa using c3
      have b4 : decide (12 < m) = true := by simpa using c4
      go_enter Try.func16, Try.ntmps16
      go_wp2_with fail
      go_quiet (fail)
      go_wp2_with fail
      go_ret2
      exact ⟨rfl, below_drewN ((Below.refl _ _).alloc (Nat.le_refl _) _) _⟩
    · have b1 : decide (y < 1) = false := by simpa using c1
      have b2 : decide (9999 < y) = false := by simpa using c2
      have b3 : decide (m < 1) = false := by simpa using c3
      have b4 : decide (12 < m) = false := by simpa using c4
      have b5 : decide (d < 1) = true := by simpa using c5
      go_enter Try.func16, Try.ntmps16
      go_wp2_with fail
      go_quiet (fail)
      go_wp2_with fail
      go_ret2
      exact ⟨rfl, below_drewN ((Below.refl _ _).alloc (Nat.le_refl _) _) _⟩

/-- A day's value. -/
theorem dayOfT_yes (t : Int) (w : World) (h1 : -62135596800 ≤ t) (h2 : t ≤ 253402300799) :
    Calls Try.prog 17 #[.int .i64 t] w fun e w' => e = .returned (.tuple #[.agg #[.int .i16 (Cal.dyear (t / 86400)), .int .i8 (Cal.dmonth (t / 86400)), .int .i8 (Cal.dday (t / 86400)), .int .i8 ((t / 86400 + 3) % 7)], .int .i64 0]) ∧ Below w.heap.size w w' := by
  have hi : insideB t = true := by simp [insideB, h1, h2]
  have hd : -719162 ≤ t / 86400 ∧ t / 86400 ≤ 2932896 := by omega
  obtain ⟨hd1, hd2⟩ := hd
  go_enter Try.func17, Try.ntmps17
  go_wp2_with (first
    | (go_at_call 32; refine (inside_any _ _).mono ?_; rintro e w' ⟨rfl, rfl⟩)
    | (go_at_call 33; refine (floor_any _ _ _ (by omega) (by omega) (by omega)).mono ?_; rintro e w' ⟨rfl, rfl⟩)
    | (go_at_call 29; refine (dayOf_any _ _ (by omega) (by omega)).mono ?_; rintro e w2 ⟨rfl, hb2⟩; obtain ⟨hc, hf⟩ := bcell hb2))
  refine bodyPost_ret (v := .tuple #[.agg #[.int .i16 (Cal.dyear (t / 86400)), .int .i8 (Cal.dmonth (t / 86400)), .int .i8 (Cal.dday (t / 86400)), .int .i8 ((t / 86400 + 3) % 7)], .int .i64 0]) (by simp [results, Try.results17, go_sem, hc, hf]) rfl ⟨rfl, ?_⟩
  exact ((((((Below.refl _ _).alloc (Nat.le_refl _) _).trans (hb2.mono (B' := w.heap.size) (by simp))).setCell (Nat.le_refl _) _).setCell (Nat.le_refl _) _).setCell (Nat.le_refl _) _).setCell (Nat.le_refl _) _

theorem dayOfT_no (t : Int) (w : World) (h1 : ¬ (-62135596800 ≤ t ∧ t ≤ 253402300799)) :
    Calls Try.prog 17 #[.int .i64 t] w fun e w' => e = .returned (.tuple #[.agg #[.int .i16 0, .int .i8 0, .int .i8 0, .int .i8 0], .int .i64 281]) ∧ Below w.heap.size w w' := by
  have hi : insideB t = false := by simp [insideB]; omega
  go_enter Try.func17, Try.ntmps17
  go_wp2_with (first
    | (go_at_call 32; refine (inside_any _ _).mono ?_; rintro e w' ⟨rfl, rfl⟩))
  exact bodyPost_ret (v := .tuple #[.agg #[.int .i16 0, .int .i8 0, .int .i8 0, .int .i8 0], .int .i64 281]) (by simp [results, Try.results17, go_sem]) rfl ⟨rfl, (Below.refl _ _).alloc (Nat.le_refl _) _⟩

theorem refDayOf_no (t : Int) (w : World) (h0 : -9223372036854775808 ≤ t) (h00 : t ≤ 9223372036854775807) (h1 : ¬ (-62135596800 ≤ t ∧ t ≤ 253402300799)) :
    Calls Try.prog 18 #[.int .i64 t] w fun e w' => e = .returned (.tuple #[.agg #[.int .i16 0, .int .i8 0, .int .i8 0, .int .i8 0], .int .i64 281]) ∧ Below w.heap.size w w' := by
  by_cases c : t < -62135596800
  · go_enter Try.func18, Try.ntmps18
    go_wp2_with fail
    exact bodyPost_ret (v := .tuple #[.agg #[.int .i16 0, .int .i8 0, .int .i8 0, .int .i8 0], .int .i64 281]) (by simp [results, Try.results18, go_sem]) rfl ⟨rfl, (Below.refl _ _).alloc (Nat.le_refl _) _⟩
  · have c2 : 253402300799 < t := by omega
    go_enter Try.func18, Try.ntmps18
    go_wp2_with fail
    exact bodyPost_ret (v := .tuple #[.agg #[.int .i16 0, .int .i8 0, .int .i8 0, .int .i8 0], .int .i64 281]) (by simp [results, Try.results18, go_sem]) rfl ⟨rfl, (Below.refl _ _).alloc (Nat.le_refl _) _⟩

end Go.Proofs.Ytoncjoelkenjnaa.Days
