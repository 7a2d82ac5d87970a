/- The calendar of layer 28 in plain integers: the count of the days by eras of 400 years, and by years one by one, agree. No program here. -/
import Init
namespace Go.Proofs.Ytoncjoelkenjnaa.Cal

def leapB (y : Int) : Bool := y % 4 == 0 && (y % 100 != 0 || y % 400 == 0)
def lp (y : Int) : Int := if y % 4 = 0 ∧ (y % 100 ≠ 0 ∨ y % 400 = 0) then 1 else 0
/-- The length of a month. -/
def mlen (y m : Int) : Int := if m = 2 then 28 + lp y else if m = 4 ∨ m = 6 ∨ m = 9 ∨ m = 11 then 30 else 31
/-- Days from the first of the year 1 to the first day of a year. -/
def upTo (y : Int) : Int := 365 * (y - 1) + (y - 1) / 4 - (y - 1) / 100 + (y - 1) / 400
/-- Days of a year ahead of a month. -/
def cum (y m : Int) : Int :=
  if m ≤ 1 then 0 else if m = 2 then 31 else
  (if m = 3 then 59 else if m = 4 then 90 else if m = 5 then 120 else if m = 6 then 151 else if m = 7 then 181 else if m = 8 then 212 else if m = 9 then 243 else if m = 10 then 273 else if m = 11 then 304 else if m = 12 then 334 else 365) + lp y

/-- The program's count of days behind the first of 1970. -/
def year' (y m : Int) : Int := if m - 3 < 0 then y - 1 else y
def mp' (m : Int) : Int := if m - 3 < 0 then m - 3 + 12 else m - 3
def number (y m d : Int) : Int :=
  146097 * (year' y m / 400) + 365 * (year' y m % 400) + (year' y m % 400) / 4 - (year' y m % 400) / 100 + ((153 * mp' m + 2) / 5 + d - 1) - 719468

def doe (n : Int) : Int := (n + 719468) % 146097
def era (n : Int) : Int := (n + 719468) / 146097
def yoe (n : Int) : Int := (doe n - doe n / 1460 + doe n / 36524 - doe n / 146096) / 365
def doy (n : Int) : Int := doe n - (365 * yoe n + yoe n / 4 - yoe n / 100)
def mp (n : Int) : Int := (5 * doy n + 2) / 153
def dday (n : Int) : Int := doy n - (153 * mp n + 2) / 5 + 1
def dmonth (n : Int) : Int := if mp n + 3 > 12 then mp n + 3 - 12 else mp n + 3
def dyear (n : Int) : Int := if mp n + 3 > 12 then 400 * era n + yoe n + 1 else 400 * era n + yoe n

theorem lp_01 (y : Int) : lp y = 0 ∨ lp y = 1 := by unfold lp; split <;> simp
theorem mlen_bd (y m : Int) : 28 ≤ mlen y m ∧ mlen y m ≤ 31 := by
  unfold mlen; have := lp_01 y; repeat' split
  all_goals omega
theorem upTo_succ (y : Int) : upTo (y + 1) = upTo y + 365 + lp y := by
  unfold upTo lp; split <;> omega
theorem cum_succ (y m : Int) (h1 : 1 ≤ m) (h2 : m ≤ 12) : cum y (m + 1) = cum y m + mlen y m := by
  have hm : m = 1 ∨ m = 2 ∨ m = 3 ∨ m = 4 ∨ m = 5 ∨ m = 6 ∨ m = 7 ∨ m = 8 ∨ m = 9 ∨ m = 10 ∨ m = 11 ∨ m = 12 := by omega
  have hl := lp_01 y
  rcases hm with rfl | rfl | rfl | rfl | rfl | rfl | rfl | rfl | rfl | rfl | rfl | rfl <;> simp [cum, mlen] <;> omega

/-- The magic of the quotients: the year of the era. -/
theorem yoe_of (c q r t : Int) (hc0 : 0 ≤ c) (hc : c ≤ 3) (hq0 : 0 ≤ q) (hq : q ≤ 24) (hr0 : 0 ≤ r) (hr : r ≤ 3) (ht0 : 0 ≤ t) (ht : t ≤ 364 ∨ (t = 365 ∧ r = 3 ∧ (q ≤ 23 ∨ c = 3))) :
    let e := 36524 * c + 1461 * q + 365 * r + t
    (e - e / 1460 + e / 36524 - e / 146096) / 365 = 100 * c + 4 * q + r ∧ 0 ≤ e ∧ e < 146097 := by
  intro e
  have h0 : 0 ≤ e ∧ e < 146097 := by
    rcases (by omega : c = 0 ∨ c = 1 ∨ c = 2 ∨ c = 3) with rfl | rfl | rfl | rfl <;> omega
  have hs : 24 * c + q + 365 * r + t ≤ 1556 := by omega
  have hd : e / 1460 = 25 * c + q + (24 * c + q + 365 * r + t) / 1460 := by omega
  obtain ⟨g, hg⟩ : ∃ g, g = (24 * c + q + 365 * r + t) / 1460 := ⟨_, rfl⟩
  rw [← hg] at hd
  refine ⟨?_, h0.1, h0.2⟩
  by_cases hx : e = 146096
  · rw [hx]; omega
  · have hf : e / 146096 = 0 := by omega
    have h3 : e / 36524 = c := by
      rcases (by omega : c = 0 ∨ c = 1 ∨ c = 2 ∨ c = 3) with rfl | rfl | rfl | rfl <;> omega
    rw [hf, h3, hd]
    have hv : e - (25 * c + q + g) + c - 0 = 365 * (100 * c + 4 * q + r) + (t - g) := by omega
    rw [hv]
    have : 0 ≤ t - g ∧ t - g ≤ 364 := by
      rcases (by omega : r = 0 ∨ r = 1 ∨ r = 2 ∨ r = 3) with rfl | rfl | rfl | rfl <;> omega
    omega

theorem mp_of (m d t : Int) (h1 : 1 ≤ m) (h2 : m ≤ 12) (hd : 1 ≤ d) (hd2 : d ≤ 31) (hd3 : (m = 4 ∨ m = 6 ∨ m = 9 ∨ m = 11) → d ≤ 30) (hd4 : m = 2 → d ≤ 29)
    (ht : t = (153 * mp' m + 2) / 5 + d - 1) : (5 * t + 2) / 153 = mp' m ∧ 0 ≤ t ∧ t - (153 * mp' m + 2) / 5 + 1 = d ∧ 0 ≤ mp' m ∧ mp' m ≤ 11 ∧ (mp' m + 3 > 12 ↔ m ≤ 2) ∧ (m ≠ 2 → t ≤ 336 ∨ m = 1) ∧ (m = 2 → t = 336 + d) ∧ (m = 1 → t ≤ 336) ∧ (3 ≤ m → t ≤ 305) := by
  have hm : m = 1 ∨ m = 2 ∨ m = 3 ∨ m = 4 ∨ m = 5 ∨ m = 6 ∨ m = 7 ∨ m = 8 ∨ m = 9 ∨ m = 10 ∨ m = 11 ∨ m = 12 := by omega
  subst ht
  rcases hm with rfl | rfl | rfl | rfl | rfl | rfl | rfl | rfl | rfl | rfl | rfl | rfl <;> simp [mp'] <;> simp at hd3 hd4 <;> omega

/-- A date of the calendar. -/
def Valid (y m d : Int) : Prop := 1 ≤ m ∧ m ≤ 12 ∧ 1 ≤ d ∧ d ≤ mlen y m

theorem day_number' (y m d : Int) (h : Valid y m d) : (dyear (number y m d) = y ∧ dmonth (number y m d) = m ∧ dday (number y m d) = d) ∧ (0 ≤ yoe (number y m d) ∧ yoe (number y m d) ≤ 399 ∧ 0 ≤ doy (number y m d) ∧ doy (number y m d) ≤ 365 ∧ 0 ≤ mp (number y m d) ∧ mp (number y m d) ≤ 11) := by
  obtain ⟨h1, h2, h3, h4⟩ := h
  have hb := mlen_bd y m
  have hd3 : (m = 4 ∨ m = 6 ∨ m = 9 ∨ m = 11) → d ≤ 30 := by
    intro hm
    have : mlen y m = 30 := by unfold mlen; rw [if_neg (by omega), if_pos hm]
    omega
  have hm2 : m = 2 → d ≤ 28 + lp y := by intro e; subst e; simpa [mlen] using h4
  obtain ⟨p1, p2, p3, p4, p5, p6, p7, p8, p9, p10⟩ := mp_of m d _ h1 h2 h3 (by omega) hd3 (fun e => by have := hm2 e; have := lp_01 y; omega) rfl
  generalize ht : (153 * mp' m + 2) / 5 + d - 1 = t at *
  generalize hY : year' y m = Y
  have hYy : (m ≤ 2 → Y = y - 1) ∧ (3 ≤ m → Y = y) := by
    subst hY; unfold year'; constructor <;> intro _ <;> split <;> omega
  obtain ⟨E, hE⟩ : ∃ E, E = Y / 400 := ⟨_, rfl⟩
  obtain ⟨c, hc⟩ : ∃ c, c = (Y % 400) / 100 := ⟨_, rfl⟩
  obtain ⟨q, hq⟩ : ∃ q, q = ((Y % 400) % 100) / 4 := ⟨_, rfl⟩
  obtain ⟨r, hr⟩ : ∃ r, r = (Y % 400) % 4 := ⟨_, rfl⟩
  have hYd : Y = 400 * E + 100 * c + 4 * q + r := by omega
  have hleap : t = 365 → r = 3 ∧ (q ≤ 23 ∨ c = 3) := by
    intro e
    have hm : m = 2 := by
      by_cases e1 : m = 1
      · have := p9 e1; omega
      · by_cases e3 : 3 ≤ m
        · have := p10 e3; omega
        · omega
    have hd29 : d = 29 := by have := p8 hm; omega
    have hl : lp y = 1 := by have := hm2 hm; have := lp_01 y; omega
    have hy : Y = y - 1 := hYy.1 (by omega)
    unfold lp at hl
    split at hl
    · rename_i hh; omega
    · omega
  have htm : t ≤ 365 := by
    by_cases e2 : m = 2
    · have := p8 e2; have := hm2 e2; have := lp_01 y; omega
    · have := p7 e2; by_cases e1 : m = 1
      · have := p9 e1; omega
      · omega
  obtain ⟨y1, y2, y3⟩ := yoe_of c q r t (by omega) (by omega) (by omega) (by omega) (by omega) (by omega) p2 (by
    by_cases e : t = 365
    · exact .inr ⟨e, hleap e⟩
    · exact .inl (by omega))
  have hz : number y m d + 719468 = 146097 * E + (36524 * c + 1461 * q + 365 * r + t) := by
    unfold number; rw [hY, ht, ← hE]
    have e1 : Y % 400 = 100 * c + 4 * q + r := by omega
    have e2 : (Y % 400) / 4 = 25 * c + q := by omega
    have e3 : (Y % 400) / 100 = c := by omega
    rw [e2, e3, e1]; omega
  have hdoe : doe (number y m d) = 36524 * c + 1461 * q + 365 * r + t := by unfold doe; omega
  have hera : era (number y m d) = E := by unfold era; omega
  have hyoe : yoe (number y m d) = 100 * c + 4 * q + r := by unfold yoe; rw [hdoe]; exact y1
  have hdoy : doy (number y m d) = t := by 
    unfold doy; rw [hdoe, hyoe, show (100 * c + 4 * q + r) / 4 = 25 * c + q by omega, show (100 * c + 4 * q + r) / 100 = c by omega]; omega
  have hmp : mp (number y m d) = mp' m := by unfold mp; rw [hdoy]; exact p1
  refine ⟨⟨?_, ?_, ?_⟩, by rw [hyoe, hdoy, hmp]; omega⟩
  · unfold dyear; rw [hmp, hera, hyoe]
    split
    · have := p6.1 (by omega); have := hYy.1 this; omega
    · have : ¬ m ≤ 2 := fun h => by have := p6.2 h; omega
      have := hYy.2 (by omega); omega
  · unfold dmonth; rw [hmp]
    unfold mp'; repeat' split
    all_goals omega
  · unfold dday; rw [hdoy, hmp]; exact p3

theorem day_number (y m d : Int) (h : Valid y m d) : dyear (number y m d) = y ∧ dmonth (number y m d) = m ∧ dday (number y m d) = d := (day_number' y m d h).1

/-- The two counts of the days agree. -/
theorem number_upTo (y m d : Int) (h1 : 1 ≤ m) (h2 : m ≤ 12) : number y m d = upTo y + cum y m + d - 1 - 719162 := by
  have hm : m = 1 ∨ m = 2 ∨ m = 3 ∨ m = 4 ∨ m = 5 ∨ m = 6 ∨ m = 7 ∨ m = 8 ∨ m = 9 ∨ m = 10 ∨ m = 11 ∨ m = 12 := by omega
  unfold number upTo
  rcases hm with rfl | rfl | rfl | rfl | rfl | rfl | rfl | rfl | rfl | rfl | rfl | rfl <;> simp [year', mp', cum] <;> (try unfold lp) <;> (try split) <;> omega

theorem lp_mono (k : Nat) (y : Int) : upTo y ≤ upTo (y + k) := by
  induction k with
  | zero => simp
  | succ k ih => have h := upTo_succ (y + k); have := lp_01 (y + k); rw [show y + ((k + 1 : Nat) : Int) = y + k + 1 by omega]; omega
theorem upTo_mono (a b : Int) (h : a ≤ b) : upTo a ≤ upTo b := by
  have := lp_mono (b - a).toNat a
  rwa [show a + ((b - a).toNat : Int) = b by omega] at this
theorem cum_bd (y m : Int) (h1 : 1 ≤ m) (h2 : m ≤ 13) : 0 ≤ cum y m ∧ cum y m ≤ 365 + lp y := by
  have hl := lp_01 y
  have hm : m = 1 ∨ m = 2 ∨ m = 3 ∨ m = 4 ∨ m = 5 ∨ m = 6 ∨ m = 7 ∨ m = 8 ∨ m = 9 ∨ m = 10 ∨ m = 11 ∨ m = 12 ∨ m = 13 := by omega
  rcases hm with rfl | rfl | rfl | rfl | rfl | rfl | rfl | rfl | rfl | rfl | rfl | rfl | rfl <;> simp [cum] <;> omega
theorem cum_13 (y : Int) : cum y 13 = 365 + lp y := by simp [cum]

/-- The day behind a day. -/
def nextY (y m d : Int) : Int := if d + 1 > mlen y m ∧ m = 12 then y + 1 else y
def nextM (y m d : Int) : Int := if d + 1 > mlen y m then (if m = 12 then 1 else m + 1) else m
def nextD (y m d : Int) : Int := if d + 1 > mlen y m then 1 else d + 1

/-- Days behind the first of the year 1. -/
def count (y m d : Int) : Int := upTo y + cum y m + d - 1

theorem next_valid (y m d : Int) (h : Valid y m d) : Valid (nextY y m d) (nextM y m d) (nextD y m d) ∧ count (nextY y m d) (nextM y m d) (nextD y m d) = count y m d + 1 := by
  obtain ⟨h1, h2, h3, h4⟩ := h
  have hc := cum_succ y m h1 h2
  unfold nextY nextM nextD
  by_cases a : d + 1 > mlen y m
  · by_cases b : m = 12
    · subst b
      simp only [a, true_and, if_true]
      have := mlen_bd (y + 1) 1
      refine ⟨⟨by omega, by omega, by omega, by omega⟩, ?_⟩
      have e := upTo_succ y
      have e2 := cum_13 y
      unfold count
      rw [e, show cum (y + 1) 1 = 0 by simp [cum]]
      rw [show ((12 : Int) + 1) = 13 by rfl] at hc
      omega
    · simp only [a, b, and_false, if_true, if_false]
      have := mlen_bd y (m + 1)
      refine ⟨⟨by omega, by omega, by omega, by omega⟩, ?_⟩
      unfold count
      rw [hc]; omega
  · simp only [a, false_and, if_false]
    refine ⟨⟨h1, h2, by omega, by omega⟩, ?_⟩
    unfold count; omega

theorem exists_date (N : Nat) : ∃ y m d, 1 ≤ y ∧ Valid y m d ∧ count y m d = N := by
  induction N with
  | zero => exact ⟨1, 1, 1, by omega, ⟨by omega, by omega, by omega, by decide⟩, by decide⟩
  | succ N ih =>
    obtain ⟨y, m, d, hy, hv, hc⟩ := ih
    have hn := next_valid y m d hv
    refine ⟨_, _, _, ?_, hn.1, by rw [hn.2, hc]; rfl⟩
    unfold nextY; split <;> omega

theorem number_count (y m d : Int) (h : Valid y m d) : number y m d = count y m d - 719162 := by
  rw [number_upTo y m d h.1 h.2.1]; unfold count; omega

/-- Whatever date has a count: the program's day of that count is that date. -/
theorem day_of_count (y m d n : Int) (h : Valid y m d) (hn : count y m d = n + 719162) : dyear n = y ∧ dmonth n = m ∧ dday n = d := by
  have e := number_count y m d h
  have : n = number y m d := by omega
  rw [this]; exact day_number y m d h

theorem count_bd (y m d : Int) (h : Valid y m d) : upTo y ≤ count y m d ∧ count y m d < upTo (y + 1) := by
  obtain ⟨h1, h2, h3, h4⟩ := h
  have hc := cum_succ y m h1 h2
  have hb := cum_bd y (m + 1) (by omega) (by omega)
  have hb' := cum_bd y m (by omega) (by omega)
  have e := upTo_succ y
  unfold count; omega

theorem year_bd (y m d : Int) (h : Valid y m d) (hn : 0 ≤ count y m d) (hx : count y m d ≤ 3652058) : 1 ≤ y ∧ y ≤ 9999 := by
  have hb := count_bd y m d h
  constructor
  · rcases Int.lt_or_le y 1 with hy | hy
    · have := upTo_mono (y + 1) 1 (by omega)
      rw [show upTo 1 = 0 by decide] at this
      omega
    · exact hy
  · rcases Int.lt_or_le 9999 y with hy | hy
    · have := upTo_mono 10000 y (by omega)
      rw [show upTo 10000 = 3652059 by decide] at this
      omega
    · exact hy

theorem upTo_bd (y : Int) (h1 : 1 ≤ y) (h2 : y ≤ 10000) : 0 ≤ upTo y ∧ upTo y ≤ 3652059 := by
  have a := upTo_mono 1 y h1
  have b := upTo_mono y 10000 h2
  rw [show upTo 1 = 0 by decide] at a
  rw [show upTo 10000 = 3652059 by decide] at b
  exact ⟨a, b⟩

theorem upTo_guess (N : Int) (h : 0 ≤ N) : upTo (1 + N / 366) ≤ N := by
  unfold upTo; omega

/-- The program's day of any count of days in the calendar: a date, and its count. -/
theorem day_valid (n : Int) (h : -719162 ≤ n) : Valid (dyear n) (dmonth n) (dday n) ∧ count (dyear n) (dmonth n) (dday n) = n + 719162 := by
  obtain ⟨y, m, d, _, hv, hc⟩ := exists_date (n + 719162).toNat
  have hc' : count y m d = n + 719162 := by omega
  obtain ⟨a, b, c⟩ := day_of_count y m d n hv hc'
  rw [a, b, c]; exact ⟨hv, hc'⟩

theorem day_bd (n : Int) (h : -719162 ≤ n) : 0 ≤ yoe n ∧ yoe n ≤ 399 ∧ 0 ≤ doy n ∧ doy n ≤ 365 ∧ 0 ≤ mp n ∧ mp n ≤ 11 := by
  obtain ⟨y, m, d, _, hv, hc⟩ := exists_date (n + 719162).toNat
  have hc' : count y m d = n + 719162 := by omega
  have e := number_count y m d hv
  have : n = number y m d := by omega
  rw [this]; exact (day_number' y m d hv).2

/-- A day that its month does not have is a day of the next month. -/
theorem month_over (y m d : Int) (h1 : 1 ≤ m) (h2 : m ≤ 12) (h3 : mlen y m < d) (h4 : d ≤ 31) : dmonth (number y m d) ≠ m := by
  have hm : m ≠ 12 := by rintro rfl; simp [mlen] at h3; omega
  have hc := cum_succ y m h1 h2
  have hb := mlen_bd y m
  have hb' := mlen_bd y (m + 1)
  have e := number_upTo y m d h1 h2
  have hv : Valid y (m + 1) (d - mlen y m) := ⟨by omega, by omega, by omega, by omega⟩
  have e2 := number_upTo y (m + 1) (d - mlen y m) (by omega) (by omega)
  rw [hc] at e2
  have : number y m d = number y (m + 1) (d - mlen y m) := by omega
  rw [this, (day_number _ _ _ hv).2.1]; omega

end Go.Proofs.Ytoncjoelkenjnaa.Cal
