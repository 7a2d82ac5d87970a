/- The row with two ends, of ints: a new one. -/
import Derived.Test.YtknbehjhaaidoaaDqP
namespace Go.Proofs.Ytknbehjhaaidoaa.DI
open Go.RowKit Mem DQ
set_option linter.unusedVariables false
set_option linter.unusedSimpArgs false

theorem cell_lt {w : World} {a : Addr} {v : Value} (h : w.cell? a = some v) : a.block < w.heap.size := by
  unfold World.cell? at h
  split at h
  · split at h
    · simp at h
    · rename_i hs
      rcases Nat.lt_or_ge a.block w.heap.size with c | c
      · exact c
      · simp_all
  all_goals
    rcases Nat.lt_or_ge a.block w.heap.size with c | c
    · exact c
    · simp_all

def NewI (W : World) (g : Nat) (vs : List Int) (i : Value) (wr : World) : Prop :=
  ∃ k : Nat, k ≤ vs.length ∧ i = .int .i64 (k : Int) ∧ DS W wr g (vs.take k)
def NewI2 (W : World) (g : Nat) (vs : List Int) (x i : Value) (wr : World) : Prop := NewI W g vs i wr
theorem DS.up {W w w' : World} {g : Nat} {L : List Int} (h : DS w w' g L) (old : Mod no W w) : DS W w' g L := by
  obtain ⟨gr, C, f, H, h1, h2, h3, h4, h5⟩ := h
  have := old.size
  exact ⟨gr, C, f, H, by omega, by omega, h3, h4, old.and_then h5⟩
theorem DS.old {W w : World} {g : Nat} {L : List Int} (h : DS W w g L) : Mod no W w := by
  obtain ⟨gr, C, f, H, h1, h2, h3, h4, h5⟩ := h
  exact h5
theorem DS.mod_no {W w w' : World} {g : Nat} {L : List Int} (h : DS W w g L) (hm : Mod no w w') : DS W w' g L := by
  obtain ⟨gr, C, f, H, h1, h2, h3, h4, h5⟩ := h
  exact ⟨gr, C, f, H.mod hm (fun c => c) (fun c => c), h1, h2, h3, h4, h5.and_then hm⟩

set_option maxRecDepth 100000 in
set_option maxHeartbeats 2000000 in
theorem new_any {w : World} {A : Option Addr} {c : Nat} {vs : List Int} (hr : Rds w 1 A vs.length (vs.map iv)) (hv : vs.length ≤ 1048576) :
    Calls Try.prog 7 #[.slice A vs.length c] w fun e w' => ∃ g, e = .returned (.pointer (some ⟨g, 0, none⟩)) ∧ DS w w' g vs := by
  have HR := Lib.hid hr
  have HX := Lib.hid hv
  obtain ⟨i0, hi, hz0, hz1, hz2⟩ := info_parts int_info
  have HI0 := Lib.hid (And.intro hi (And.intro hz0 (And.intro hz1 hz2)))
  clear hr hv hi hz0 hz1 hz2
  go_enter Try.func7, Try.ntmps7
  go_wp2_with (first
    | (at_make
       refine wpList_make_full _ rfl (.const (.int .i64 8)) (.const (.int .i64 8)) 22 rfl 0 3 i0 (.int .i64 0) 1 Try.underlying22 HI0.out.1 HI0.out.2.1 HI0.out.2.2.1 .i64 .i64 8 8 8 rfl rfl rfl rfl ?_ (by decide) (Nat.zero_le _) ?_
       · rw [HI0.out.2.2.2]; decide
       intro w1 hown hg1
       have hb1 := own_blk hown
       rw [made_ints] at hb1
       have H1 := Lib.hid (And.intro hb1 (Mod.of_grown (S := no) hg1 (fun _ _ e => by cases e)))
       clear hown hg1 hb1))
  have hs := H1.out.2.size
  have h0 : DS w (w1.alloc (.cells #[.bool true, .slice (some ⟨w.heap.size, 0, none⟩) 8 8, .int .i64 0, .int .i64 0] 85)) w1.heap.size [] :=
    ⟨w.heap.size, List.replicate 8 0, 0, ⟨by simpa using Blk.new w1 _ _, H1.out.1.alloc _, Holds.nil _ (by decide), by decide⟩, hs, Nat.le_refl _, by decide, by decide, H1.out.2.alloc _⟩
  have H0 := Lib.hid h0
  clear h0 hs
  go_loopw [5, 11] (NewI2 w w1.heap.size vs) (fun _ i _ => vs.length - (intOf i).toNat)
  case atStart => exact ⟨0, Nat.zero_le _, rfl, H0.out⟩
  case round =>
    obtain ⟨k, hk, rfl, hS⟩ := hrel
    by_cases hkl : k < vs.length
    · obtain ⟨x, hx⟩ : ∃ x, vs[k]? = some x := ⟨_, List.getElem?_eq_getElem hkl⟩
      obtain ⟨ad, rfl, hc⟩ := HR.out.2 (by omega)
      have ck := hc k (.int .i64 x) (by rw [List.getElem?_map, hx]; rfl)
      have ck := (hS.old.cell (cell_lt ck) (fun c => c)).trans ck
      have et : vs.take (k + 1) = vs.take k ++ [x] := by rw [List.take_add_one, hx]; rfl
      have HS1 := Lib.hid hS
      have HE := Lib.hid (And.intro et hkl)
      have hkk : (k : Int) < (vs.length : Int) := by omega
      have hk0 : (0 : Int) ≤ (k : Int) := by omega
      have hle : (vs.take k).length ≤ 1048576 := by have := HX.out; simp; omega
      have HLE := Lib.hid hle
      have hw64 : wrap64 ((k : Int) + 1) = (k : Int) + 1 := IntWalk.wrap64_in _ (by have := HX.out; omega)
      clear hS et hx hkl hk hle hc
      go_wp2_with fail
      refine (push_top x HS1.out HLE.out).mono ?_
      rintro e w3 ⟨rfl, S3⟩
      rw [← HE.out.1] at S3
      have HS3 := Lib.hid S3
      clear S3
      go_wp2_with fail
      go_roundw
      case rel => exact ⟨k + 1, HE.out.2, by go_num, HS3.out⟩
      case measure =>
        try rw [hw64]
        clear hw64
        have := HE.out.2
        show vs.length - ((k : Int) + 1).toNat < vs.length - ((k : Int)).toNat
        omega
    · obtain rfl : k = vs.length := by omega
      have HS1 := Lib.hid hS
      have hkk : ¬ (vs.length : Int) < (vs.length : Int) := by omega
      clear hS hk hkl
      go_wp2_with fail
      go_ret
      exact ⟨w1.heap.size, rfl, by have := HS1.out; rw [List.take_length] at this; exact this⟩

end Go.Proofs.Ytknbehjhaaidoaa.DI
