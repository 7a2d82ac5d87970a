/- The document's buckets and its order. -/
import Derived.Test.YtoncjoelkenjnaaPrA
import Derived.Test.YtoncjoelkenjnaaPlE
namespace Go.Proofs.Ytoncjoelkenjnaa.PL
open Go.RowKit Mem Go.Proofs.Ytoncjoelkenjnaa.Days Go.Proofs.Ytoncjoelkenjnaa.SS
set_option linter.unusedVariables false
set_option linter.unusedSimpArgs false

/-- The document's bucket of a time, kinds 1 to 5. -/
def rb (k : Nat) (t : Int) : Int := if k = 1 then t / 3600 else if k = 2 then t / 86400 else if k = 3 then (t + 62135596800) / 604800 else if k = 4 then 100 * Cal.dyear (t / 86400) + Cal.dmonth (t / 86400) else Cal.dyear (t / 86400)
set_option maxRecDepth 100000 in
set_option maxHeartbeats 2000000 in
theorem rbucket_any {k : Nat} (hk : 1 ≤ k) (hk5 : k ≤ 5) (t : Int) (w : World) (h1 : -62135596800 ≤ t) (h2 : t ≤ 253402300799) : Calls Try.prog 43 #[.int .i64 (k : Int), .int .i64 t] w fun e w' => e = .returned (.int .i64 (rb k t)) ∧ Below w.heap.size w w' := by
  have hd := day_fields (n := t / 86400) (by omega) (by omega)
  have HD := Lib.hid (refDayOf_yes t w h1 h2)
  have HT := Lib.hid (And.intro h1 h2)
  have w1 : wrap64 (t - -62135596800) = t + 62135596800 := by rw [IntWalk.wrap64_in _ (by omega)]; omega
  have w1' : wrap64 (t + 62135596800) = t + 62135596800 := by rw [IntWalk.wrap64_in _ (by omega)]
  obtain ⟨y, hy⟩ : ∃ y, y = Cal.dyear (t / 86400) := ⟨_, rfl⟩
  obtain ⟨m, hm⟩ : ∃ m, m = Cal.dmonth (t / 86400) := ⟨_, rfl⟩
  have hr : rb k t = if k = 1 then t / 3600 else if k = 2 then t / 86400 else if k = 3 then (t + 62135596800) / 604800 else if k = 4 then 100 * y + m else y := by rw [hy, hm]; rfl
  rw [hr]
  rw [← hy, ← hm] at hd HD
  obtain ⟨d1, d2, d3, d4⟩ := hd
  have w2 : wrap64 (y * 100) = y * 100 := IntWalk.wrap64_in _ (by omega)
  have w3 : wrap64 (y * 100 + m) = 100 * y + m := by rw [IntWalk.wrap64_in _ (by omega)]; omega
  have hf := fun (a b : Int) (W : World) => down_any a b W
  have HF := Lib.hid hf
  clear hr hy hm hf
  match k, hk, hk5 with
  | 1, _, _ =>
    go_enter Try.func43, Try.ntmps43
    go_wp2_with (first
      | (go_at_call 18; refine HD.out.mono ?_; rintro e w1 ⟨rfl, hb1⟩)
      | (go_at_call 34; refine (HF.out _ _ _ (by have := HT.out; omega) (by have := HT.out; omega) (by omega)).mono ?_; rintro e w9 ⟨rfl, rfl⟩))
    go_ret
    exact ⟨rfl, hb1.alloc hb1.size _⟩
  | 2, _, _ =>
    go_enter Try.func43, Try.ntmps43
    go_wp2_with (first
      | (go_at_call 18; refine HD.out.mono ?_; rintro e w1 ⟨rfl, hb1⟩)
      | (go_at_call 34; refine (HF.out _ _ _ (by have := HT.out; omega) (by have := HT.out; omega) (by omega)).mono ?_; rintro e w9 ⟨rfl, rfl⟩))
    go_ret
    exact ⟨rfl, hb1.alloc hb1.size _⟩
  | 3, _, _ =>
    go_enter Try.func43, Try.ntmps43
    go_wp2_with (first
      | (go_at_call 18; refine HD.out.mono ?_; rintro e w1 ⟨rfl, hb1⟩)
      | (go_at_call 34; refine (HF.out _ _ _ (by have := HT.out; omega) (by have := HT.out; omega) (by omega)).mono ?_; rintro e w9 ⟨rfl, rfl⟩))
    go_ret
    exact ⟨rfl, hb1.alloc hb1.size _⟩
  | 4, _, _ =>
    go_enter Try.func43, Try.ntmps43
    go_wp2_with (first
      | (go_at_call 18; refine HD.out.mono ?_; rintro e w1 ⟨rfl, hb1⟩))
    go_ret
    exact ⟨by first | rfl | exact ret_int (show y * 100 + m = 100 * y + m by rw [Int.mul_comm]), hb1.alloc hb1.size _⟩
  | 5, _, _ =>
    go_enter Try.func43, Try.ntmps43
    go_wp2_with (first
      | (go_at_call 18; refine HD.out.mono ?_; rintro e w1 ⟨rfl, hb1⟩))
    go_ret
    exact ⟨rfl, hb1.alloc hb1.size _⟩
end Go.Proofs.Ytoncjoelkenjnaa.PL
