/- keep.Plan: the shots in memory; the closure that compares; the buckets; right; whether a time lies outside. -/
import Derived.Test.YtoncjoelkenjnaaDaysR
import Derived.Test.YtoncjoelkenjnaaSsK
import Derived.Lib.SmallJoins
namespace Go.Proofs.Ytoncjoelkenjnaa.PL
open Go.RowKit Mem Go.Proofs.Ytoncjoelkenjnaa.Days Go.Proofs.Ytoncjoelkenjnaa.SS
set_option linter.unusedVariables false
set_option linter.unusedSimpArgs false

/-- The slice '.slice A n c' holds the shots, names nm and times tm; they lie in block b from o on. -/
structure ShA (w : World) (A : Option Addr) (b o n : Nat) (nm : Nat → ByteArray) (tm : Nat → Int) : Prop where
  at_ : 0 < n → A = some ⟨b, o, none⟩
  name : ∀ i, i < n → w.cell? ⟨b, o + i * 2, none⟩ = some (.string (nm i))
  time : ∀ i, i < n → w.cell? ⟨b, o + i * 2 + 1, none⟩ = some (.int .i64 (tm i))
theorem cell_lt {w : World} {a : Addr} {v : Value} (h : w.cell? a = some v) : a.block < w.heap.size := by
  unfold World.cell? at h
  split at h
  · split at h
    · simp at h
    · rename_i hs
      rcases Nat.lt_or_ge a.block w.heap.size with c | c
      · exact c
      · simp_all
  · simp at h
theorem ShA.lt {w : World} {A : Option Addr} {b o n : Nat} {nm : Nat → ByteArray} {tm : Nat → Int} (h : ShA w A b o n nm tm) (hn : 0 < n) : b < w.heap.size := cell_lt (h.name 0 hn)
theorem ShA.mod {S : Nat → Prop} {w w' : World} {A : Option Addr} {b o n : Nat} {nm : Nat → ByteArray} {tm : Nat → Int} (h : ShA w A b o n nm tm) (m : Mod S w w') (hs : 0 < n → ¬ S b) : ShA w' A b o n nm tm :=
  ⟨h.at_, fun i hi => (m.cell (p := ⟨b, o + i * 2, none⟩) (h.lt (by omega)) (hs (by omega))).trans (h.name i hi), fun i hi => (m.cell (p := ⟨b, o + i * 2 + 1, none⟩) (h.lt (by omega)) (hs (by omega))).trans (h.time i hi)⟩
/-- The order: by the time, the newest first. -/
def keyT (tm : Nat → Int) (x : Int) : Int := - tm x.toNat
def cfT (tm : Nat → Int) (x y : Int) : Int := if tm y.toNat < tm x.toNat then -1 else if tm x.toNat < tm y.toNat then 1 else 0
theorem cfT_key (tm : Nat → Int) (x y : Int) : cfT tm x y < 0 ↔ keyT tm x < keyT tm y := by
  unfold cfT keyT
  split
  · simp; omega
  · split <;> simp <;> omega
set_option maxRecDepth 100000 in
theorem cmp_any {w : World} {A : Option Addr} {b o n c k i j : Nat} {nm : Nat → ByteArray} {tm : Nat → Int} (h : ShA w A b o n nm tm) (hk : w.cell? ⟨k, 0, none⟩ = some (.slice A n c)) (hi : i < n) (hj : j < n) (hn : n ≤ 1048600) :
    Calls Try.prog 39 #[.int .i64 (i : Int), .int .i64 (j : Int), .pointer (some ⟨k, 0, none⟩)] w fun e w' => e = .returned (.int .i64 (cfT tm (i : Int) (j : Int))) ∧ ∃ m, w' = w.drewN m := by
  obtain rfl := h.at_ (by omega)
  have ci := h.time i hi
  have cj := h.time j hj
  have bi : (i : Int) < (n : Int) := by omega
  have bj : (j : Int) < (n : Int) := by omega
  have ni : ¬ (i : Int) < 0 := by omega
  have nj : ¬ (j : Int) < 0 := by omega
  have hcf : cfT tm (i : Int) (j : Int) = if tm j < tm i then -1 else if tm i < tm j then 1 else 0 := rfl
  rw [hcf]
  generalize tm i = x at *
  generalize tm j = y at *
  clear h hcf hi hj
  by_cases h1 : y < x
  · have d1 : decide (y < x) = true := decide_eq_true h1
    rw [if_pos h1]
    go_enter Try.func39, Try.ntmps39
    go_wp2_with fail
    go_quiet (fail)
    go_wp2
    go_ret
    exact ⟨rfl, _, rfl⟩
  · have d1 : decide (y < x) = false := decide_eq_false h1
    rw [if_neg h1]
    by_cases h2 : x < y
    · have d2 : decide (x < y) = true := decide_eq_true h2
      rw [if_pos h2]
      go_enter Try.func39, Try.ntmps39
      go_wp2_with fail
      go_quiet (fail)
      go_wp2
      go_quiet (fail)
      go_wp2
      go_ret
      exact ⟨rfl, _, World.drewN_drewN _ _ _⟩
    · have d2 : decide (x < y) = false := decide_eq_false h2
      rw [if_neg h2]
      go_enter Try.func39, Try.ntmps39
      go_wp2_with fail
      go_quiet (fail)
      go_wp2
      go_quiet (fail)
      go_wp2
      go_ret
      exact ⟨rfl, _, World.drewN_drewN _ _ _⟩
/-- In which bucket a time is, by the part's number; of the first part the place itself. -/
def pb (k : Nat) (p t : Int) : Int := if k = 0 then p else if k = 1 then t / 3600 else if k = 2 then t / 86400 else if k = 3 then (t / 86400 + 3) / 7 else if k = 4 then 12 * Cal.dyear (t / 86400) + Cal.dmonth (t / 86400) else Cal.dyear (t / 86400)
theorem below_rfl (w : World) : Below w.heap.size w w := Below.refl _ _
theorem b0_any (p t : Int) (w : World) : Calls Try.prog 49 #[.int .i64 p, .int .i64 t] w fun e w' => e = .returned (.int .i64 (pb 0 p t)) ∧ Below w.heap.size w w' := by
  go_enter Try.func49, Try.ntmps49
  go_wp2_with fail
  go_ret
  exact ⟨rfl, below_rfl _⟩
theorem b1_any (p t : Int) (w : World) (h1 : -62135596800 ≤ t) (h2 : t ≤ 253402300799) : Calls Try.prog 50 #[.int .i64 p, .int .i64 t] w fun e w' => e = .returned (.int .i64 (pb 1 p t)) ∧ Below w.heap.size w w' := by
  go_enter Try.func50, Try.ntmps50
  go_wp2_with (go_at_call 33; refine (floor_any _ _ _ (by omega) (by omega) (by omega)).mono ?_; rintro e w' ⟨rfl, rfl⟩)
  go_ret
  exact ⟨rfl, below_rfl _⟩
theorem b2_any (p t : Int) (w : World) (h1 : -62135596800 ≤ t) (h2 : t ≤ 253402300799) : Calls Try.prog 51 #[.int .i64 p, .int .i64 t] w fun e w' => e = .returned (.int .i64 (pb 2 p t)) ∧ Below w.heap.size w w' := by
  go_enter Try.func51, Try.ntmps51
  go_wp2_with (go_at_call 33; refine (floor_any _ _ _ (by omega) (by omega) (by omega)).mono ?_; rintro e w' ⟨rfl, rfl⟩)
  go_ret
  exact ⟨rfl, below_rfl _⟩
theorem b3_any (p t : Int) (w : World) (h1 : -62135596800 ≤ t) (h2 : t ≤ 253402300799) : Calls Try.prog 52 #[.int .i64 p, .int .i64 t] w fun e w' => e = .returned (.int .i64 (pb 3 p t)) ∧ Below w.heap.size w w' := by
  have hw : wrap64 (t / 86400 + 3) = t / 86400 + 3 := IntWalk.wrap64_in _ (by omega)
  go_enter Try.func52, Try.ntmps52
  go_wp2_with (go_at_call 33; refine (floor_any _ _ _ (by omega) (by omega) (by omega)).mono ?_; rintro e w' ⟨rfl, rfl⟩)
  go_ret
  exact ⟨rfl, below_rfl _⟩
set_option maxRecDepth 100000 in
theorem of_any (t : Int) (w : World) (h1 : -62135596800 ≤ t) (h2 : t ≤ 253402300799) : Calls Try.prog 48 #[.int .i64 t] w fun e w' => e = .returned (.agg #[.int .i16 (Cal.dyear (t / 86400)), .int .i8 (Cal.dmonth (t / 86400)), .int .i8 (Cal.dday (t / 86400)), .int .i8 ((t / 86400 + 3) % 7)]) ∧ Below w.heap.size w w' := by
  go_enter Try.func48, Try.ntmps48
  go_wp2_with (first
    | (go_at_call 33; refine (floor_any _ _ _ (by omega) (by omega) (by omega)).mono ?_; rintro e w' ⟨rfl, rfl⟩)
    | (go_at_call 29; refine (dayOf_any _ _ (by omega) (by omega)).mono ?_; rintro e w2 ⟨rfl, hb2⟩; obtain ⟨hc, hf⟩ := bcell hb2))
  refine bodyPost_ret (v := .agg #[.int .i16 (Cal.dyear (t / 86400)), .int .i8 (Cal.dmonth (t / 86400)), .int .i8 (Cal.dday (t / 86400)), .int .i8 ((t / 86400 + 3) % 7)]) (by simp [results, Try.results48, go_sem, hc, hf]) rfl ⟨rfl, ?_⟩
  exact ((((((Below.refl _ _).alloc (Nat.le_refl _) _).trans (hb2.mono (B' := w.heap.size) (by simp))).setCell (Nat.le_refl _) _).setCell (Nat.le_refl _) _).setCell (Nat.le_refl _) _).setCell (Nat.le_refl _) _
end Go.Proofs.Ytoncjoelkenjnaa.PL
