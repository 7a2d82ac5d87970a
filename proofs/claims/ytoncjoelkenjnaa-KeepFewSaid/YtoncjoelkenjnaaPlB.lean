/- keep.Plan: the buckets by month and by year; right; whether a time lies outside. -/
import Derived.Test.YtoncjoelkenjnaaPlA
namespace Go.Proofs.Ytoncjoelkenjnaa.PL
open Go.RowKit Mem Go.Proofs.Ytoncjoelkenjnaa.Days Go.Proofs.Ytoncjoelkenjnaa.SS
set_option linter.unusedVariables false
set_option linter.unusedSimpArgs false

theorem day_fields {n : Int} (h1 : -719162 ≤ n) (h2 : n ≤ 2932896) : 0 ≤ Cal.dyear n ∧ Cal.dyear n ≤ 9999 ∧ 1 ≤ Cal.dmonth n ∧ Cal.dmonth n ≤ 12 := by
  obtain ⟨⟨v1, v2, v3, v4⟩, hc⟩ := Cal.day_valid n h1
  have hy := Cal.year_bd _ _ _ ⟨v1, v2, v3, v4⟩ (by omega) (by omega)
  omega
theorem run_field0 (a b c e : Value) (w : World) : (Instr.field 39 (.agg #[a, b, c, e]) 0).run Try.prog w = .ok a w := by kernel_rfl
set_option maxRecDepth 100000 in
set_option maxHeartbeats 1000000 in
theorem b5_any {w : World} {k : Nat} (p t : Int) (h1 : -62135596800 ≤ t) (h2 : t ≤ 253402300799) (hk : w.cell? ⟨k, 0, none⟩ = some (.func (.func 48) #[] #[])) : Calls Try.prog 54 #[.int .i64 p, .int .i64 t, .pointer (some ⟨k, 0, none⟩)] w fun e w' => e = .returned (.int .i64 (pb 5 p t)) ∧ Below w.heap.size w w' := by
  have hd := day_fields (n := t / 86400) (by omega) (by omega)
  have hk0 := cell_lt hk
  have hr0 := run_field0
  obtain ⟨y, hy⟩ : ∃ y, y = Cal.dyear (t / 86400) := ⟨_, rfl⟩
  have hpb : pb 5 p t = y := hy.symm
  have HOF := Lib.hid (fun W => of_any t W h1 h2)
  rw [hpb]
  rw [← hy] at hd HOF
  obtain ⟨d1, d2, _, _⟩ := hd
  clear hy hpb h1 h2
  go_enter Try.func54, Try.ntmps54
  go_wp2_with (go_at_call 48; refine (HOF.out _).mono ?_; rintro e w2 ⟨rfl, hb2⟩)
  go_ret
  exact ⟨rfl, hb2⟩
set_option maxRecDepth 100000 in
set_option maxHeartbeats 1000000 in
theorem b4_any {w : World} {k : Nat} (p t : Int) (h1 : -62135596800 ≤ t) (h2 : t ≤ 253402300799) (hk : w.cell? ⟨k, 0, none⟩ = some (.func (.func 48) #[] #[])) : Calls Try.prog 53 #[.int .i64 p, .int .i64 t, .pointer (some ⟨k, 0, none⟩)] w fun e w' => e = .returned (.int .i64 (pb 4 p t)) ∧ Below w.heap.size w w' := by
  have hd := day_fields (n := t / 86400) (by omega) (by omega)
  have hk0 := cell_lt hk
  have hr0 := run_field0
  have hr1 := run_field_day
  obtain ⟨y, hy⟩ : ∃ y, y = Cal.dyear (t / 86400) := ⟨_, rfl⟩
  obtain ⟨m, hm⟩ : ∃ m, m = Cal.dmonth (t / 86400) := ⟨_, rfl⟩
  have hpb : pb 4 p t = 12 * y + m := by rw [hy, hm]; rfl
  have HOF := Lib.hid (fun W => of_any t W h1 h2)
  rw [hpb]
  rw [← hy, ← hm] at hd HOF
  obtain ⟨d1, d2, d3, d4⟩ := hd
  have w1 : wrap64 (12 * y) = 12 * y := IntWalk.wrap64_in _ (by omega)
  have w2 : wrap64 (12 * y + m) = 12 * y + m := IntWalk.wrap64_in _ (by omega)
  have wi : ∀ x : Int, -1000000 ≤ x → x ≤ 1000000 → IntKind.i64.wrap x = x := fun x a1 a2 => by rw [IntKind.wrap_i64]; omega
  have e4 : IntKind.i64.wrap (IntKind.i64.wrap (12 * IntKind.i64.wrap y) + IntKind.i64.wrap m) = 12 * y + m := by rw [wi y (by omega) (by omega), wi m (by omega) (by omega), wi (12 * y) (by omega) (by omega), wi _ (by omega) (by omega)]
  clear wi
  clear hy hm hpb h1 h2
  go_enter Try.func53, Try.ntmps53
  go_wp2_with fail
  go_region_held3 (fun w' => w'.cell? ⟨k, 0, none⟩ = some (.func (.func 48) #[] #[])) (first | exact hk | exact (hb2.cell (p := ⟨k, 0, none⟩) (by simpa using hk0)).trans hk | exact (hb2.cell (p := ⟨k, 0, none⟩) (by simpa using cell_lt (by assumption))).trans (by assumption))
    (first | (go_at_call 48; refine (HOF.out _).mono ?_; rintro e w3 ⟨rfl, hb2⟩))
  rename_i w3' hb1 _
  have hB : Below w.heap.size w w3 := (Below.refl _ _).drew.trans ((hb1.mono (B' := w.heap.size) (Nat.le_refl _)).trans (hb2.mono (B' := w.heap.size) (by have := hb1.size; simpa using this)))
  try rw [e4]
  go_wp2_with fail
  go_ret
  exact ⟨rfl, hB⟩
end Go.Proofs.Ytoncjoelkenjnaa.PL
