/- The law KeepWastes: the walk. -/
import Derived.Test.YtoncjoelkenjnaaWst
namespace Go.Proofs.Ytoncjoelkenjnaa.WS
open Go.RowKit Mem FL
set_option linter.unusedVariables false
set_option linter.unusedSimpArgs false

theorem sim_nan {z : Nat} (h : Sim z qnan) : nanB z := by
  rcases h with rfl | h
  · exact nan_q
  · exact h.1
theorem sim_num {z x : Nat} (h : Sim z x) (hx : ¬ nanB x) : z = x := h.elim id fun h => absurd h.2 hx
theorem num_of {x y : Nat} (h : FloatKind.f64.format.order x y = some .eq) : ¬ nanB x := fun hn => by rw [order_nan hn] at h; cases h

theorem waste_0 : wasteF 0 (fun _ => 0) (fun _ => 0) = qnan := by kernel_rfl
theorem waste_1 : wasteF 1 (fun _ => 100) (fun _ => 50) = 4602678819172646912 := by kernel_rfl
theorem half_eq : FloatKind.f64.format.order 4602678819172646912 4602678819172646912 = some .eq := by kernel_rfl
theorem due_0 : dueF 100 0 (fun _ => 0) (fun _ => 0) 0 4607182418800017408 = false := by kernel_rfl
theorem due_1 : dueF 100 1 (fun _ => 100) (fun _ => 50) 4602678819172646912 0 = true := by kernel_rfl
theorem seg_0 (w : World) (A : Option Addr) (u l : Nat → Int) : SegA w A 0 u l := fun h => absurd h (Nat.lt_irrefl 0)
theorem seg_1 {w : World} {g : Nat} {t : TypeId} (h : Blk w g t #[.int .u8 0, .int .i64 100, .int .i64 50, .int .i64 0, .int .i64 0]) : SegA w (some ⟨g, 0, none⟩) 1 (fun _ => 100) (fun _ => 50) := fun _ => by
  refine ⟨g, 0, rfl, fun i hi => ?_⟩
  obtain rfl : i = 0 := by omega
  exact ⟨0, 0, 0, by rw [h.cell]; rfl, by rw [h.cell]; rfl, by rw [h.cell]; rfl, by rw [h.cell]; rfl, by rw [h.cell]; rfl⟩

set_option maxRecDepth 100000 in
set_option maxHeartbeats 4000000 in
theorem wastes_law {W : World} {A : Option Addr} {n c p q : Nat} {size : Int} {b0 b1 : Bool} {u l : Nat → Int} (h : SegA W A n u l) (hn : n ≤ 9223372036854775807) :
    Calls Try.prog 3 #[.agg #[.slice A n c, .int .i64 size, .float .f64 p, .float .f64 q, .bool b0, .bool b1]] W fun e w' => e = .returned (.bool true) ∧ Mod no W w' := by
  have H := Lib.hid h
  have HN := Lib.hid hn
  clear h hn
  cases b0 <;> cases b1
  all_goals
    go_enter Try.func3, Try.ntmps3
    go_wp2_with (go_at_call 9; refine (nan_any _).mono ?_; rintro e w' ⟨rfl, rfl⟩)
    refine (waste_any (H.out.mod ((Mod.refl no W).alloc _)) HN.out).mono ?_
    rintro e w1 ⟨z1, rfl, s1, m1⟩
    have H1 := Lib.hid (And.intro s1 (((Mod.refl no W).alloc _).and_then m1))
    clear s1 m1
    go_wp2_with fail
    refine (rwaste_any (H.out.mod H1.out.2) HN.out).mono ?_
    rintro e w2 ⟨z2, rfl, s2, m2⟩
    have H2 := Lib.hid (And.intro s2 (H1.out.2.and_then m2))
    clear s2 m2
    go_wp2_with fail
    refine (same_any H1.out.1 H2.out.1).mono ?_
    rintro e w3 ⟨rfl, rfl⟩
    go_wp2_with fail
    refine (due_any size (H.out.mod H2.out.2) HN.out (Sim.refl _) (Sim.refl _)).mono ?_
    rintro e w4 ⟨rfl, m4⟩
    have H4 := Lib.hid (H2.out.2.and_then m4)
    clear m4
    go_wp2_with fail
    refine (rdue_any size (H.out.mod H4.out) HN.out (Sim.refl _) (Sim.refl _)).mono ?_
    rintro e w5 ⟨rfl, m5⟩
    have H5 := Lib.hid (H4.out.and_then m5)
    clear m5
    go_wp2_with fail
    refine (waste_any (u := fun _ => 0) (l := fun _ => 0) (seg_0 _ _ _ _) (by decide)).mono ?_
    rintro e w6 ⟨z6, rfl, s6, m6⟩
    rw [waste_0] at s6
    have o6 := order_nan (sim_nan s6) z6
    have H6 := Lib.hid (H5.out.and_then m6)
    clear s6 m6
    go_wp2_with fail
    refine (waste_any (seg_1 (Blk.new w6 _ _)) (by decide)).mono ?_
    rintro e w7 ⟨z7, rfl, s7, m7⟩
    rw [waste_1] at s7
    obtain rfl := sim_num s7 (num_of half_eq)
    have H7 := Lib.hid ((H6.out.alloc _).and_then m7)
    have hh := half_eq
    clear s7 m7
    go_wp2_with fail
    refine (due_any (u := fun _ => 0) (l := fun _ => 0) 100 (seg_0 _ _ _ _) (by decide) (Sim.refl 0) (Sim.refl 4607182418800017408)).mono ?_
    rintro e w8 ⟨rfl, m8⟩
    rw [due_0]
    have H8 := Lib.hid (H7.out.and_then m8)
    clear m8
    go_wp2_with fail
    refine (due_any 100 (seg_1 (Blk.new w8 _ _)) (by decide) (Sim.refl 4602678819172646912) (Sim.refl 0)).mono ?_
    rintro e w9 ⟨rfl, m9⟩
    rw [due_1]
    have H9 := Lib.hid ((H8.out.alloc _).and_then m9)
    clear m9
    go_wp2_with fail
    go_ret
    exact ⟨rfl, H9.out⟩

end Go.Proofs.Ytoncjoelkenjnaa.WS
