/- Sums over segments, and what hangs on them: both ways give the same, up to the bits of NaN. -/
import Derived.Test.YtoncjoelkenjnaaFlt
namespace Go.Proofs.Ytoncjoelkenjnaa.WS
open Go.RowKit Mem FL
set_option linter.unusedVariables false
set_option linter.unusedSimpArgs false

/-- The used and the live bytes of n segments. -/
def SegA (W : World) (A : Option Addr) (n : Nat) (u l : Nat → Int) : Prop :=
  0 < n → ∃ b o, A = some ⟨b, o, none⟩ ∧ ∀ i, i < n → ∃ s p h : Int, W.cell? ⟨b, o + i * 5, none⟩ = some (.int .u8 s) ∧ W.cell? ⟨b, o + i * 5 + 1, none⟩ = some (.int .i64 (u i)) ∧
    W.cell? ⟨b, o + i * 5 + 2, none⟩ = some (.int .i64 (l i)) ∧ W.cell? ⟨b, o + i * 5 + 3, none⟩ = some (.int .i64 p) ∧ W.cell? ⟨b, o + i * 5 + 4, none⟩ = some (.int .i64 h)

theorem cell_lt {w : World} {a : Addr} {v : Value} (h : w.cell? a = some v) : a.block < w.heap.size := by
  unfold World.cell? at h
  split at h
  · split at h
    · simp at h
    · rename_i hs
      rcases Nat.lt_or_ge a.block w.heap.size with c | c
      · exact c
      · simp_all
  all_goals
    rcases Nat.lt_or_ge a.block w.heap.size with c | c
    · exact c
    · simp_all

theorem SegA.mod {W W' : World} {A : Option Addr} {n : Nat} {u l : Nat → Int} (h : SegA W A n u l) (hm : Mod no W W') : SegA W' A n u l := fun hp => by
  obtain ⟨b, o, e, hc⟩ := h hp
  refine ⟨b, o, e, fun i hi => ?_⟩
  obtain ⟨s, p, hh, c0, c1, c2, c3, c4⟩ := hc i hi
  have m : ∀ {k : Nat} {v : Value}, W.cell? ⟨b, k, none⟩ = some v → W'.cell? ⟨b, k, none⟩ = some v := fun {k v} c => by
    rw [hm.cell (p := ⟨b, k, none⟩) (cell_lt c) (fun c => c)]; exact c
  exact ⟨s, p, hh, m c0, m c1, m c2, m c3, m c4⟩

/-- The sum, as floats are summed. -/
def accF (u : Nat → Int) : Nat → Nat
  | 0 => 0
  | k + 1 => fop .add (accF u k) (floatOfInt .f64 (u k))

def SumI (w : World) (n : Nat) (u l : Nat → Int) (a b i : Value) (wr : World) : Prop :=
  ∃ (k x y : Nat), k ≤ n ∧ a = .float .f64 x ∧ b = .float .f64 y ∧ i = .int .i64 (k : Int) ∧ Sim x (accF u k) ∧ Sim y (accF l k) ∧ Mod no w wr

set_option maxRecDepth 100000 in
set_option maxHeartbeats 1000000 in
theorem sums_any {w : World} {A : Option Addr} {n c : Nat} {u l : Nat → Int} (h : SegA w A n u l) (hn : n ≤ 9223372036854775807) :
    Calls Try.prog 26 #[.slice A n c] w fun e w' => ∃ a b, e = .returned (.tuple #[.float .f64 a, .float .f64 b]) ∧ Sim a (accF u n) ∧ Sim b (accF l n) ∧ Mod no w w' := by
  have H := Lib.hid h
  have HN := Lib.hid hn
  clear h hn
  go_enter Try.func26, Try.ntmps26
  go_wp2_with fail
  go_loopw [2, 3, 8] (SumI w n u l) (fun _ _ i _ => n - (intOf i).toNat)
  case atStart => exact ⟨0, 0, 0, Nat.zero_le _, rfl, rfl, rfl, .refl _, .refl _, Mod.refl _ _⟩
  case round =>
    obtain ⟨k, x, y, hk, rfl, rfl, rfl, hx, hy, M⟩ := hrel
    have HS := Lib.hid (And.intro hx hy)
    have HM := Lib.hid M
    by_cases hlt : k < n
    · obtain ⟨b, o, rfl, hc⟩ := (H.out.mod M) (by omega)
      obtain ⟨s, p, hh, c0, c1, c2, c3, c4⟩ := hc k hlt
      have hkn : (k : Int) < (n : Int) := by omega
      have hk0 : (0 : Int) ≤ (k : Int) := by omega
      have hbl := cell_lt c0
      have hw64 : wrap64 ((k : Int) + 1) = (k : Int) + 1 := IntWalk.wrap64_in _ (by have := HN.out; omega)
      have HK := Lib.hid (And.intro hk hlt)
      clear hx hy M hc hk hlt
      go_wp2_with (first
        | (refine wpList_f rfl (.tmp 12) (.tmp 15) .add _ _ rfl (.inl rfl) _ rfl rfl HS.out.1 (Sim.refl (floatOfInt .f64 (u k))) ?_
           intro z1 w7 m7 s7
           have d2 : w7.cell? ⟨wr.heap.size, 2, none⟩ = some (.int .i64 (l k)) := by rw [m7.cell (p := ⟨wr.heap.size, 2, none⟩) (by simp) (fun c => c)]; simp
           have HM7 := Lib.hid (And.intro m7 s7)
           clear m7 s7)
        | (refine wpList_f rfl (.tmp 17) (.tmp 20) .add _ _ rfl (.inl rfl) _ rfl rfl HS.out.2 (Sim.refl (floatOfInt .f64 (l k))) ?_
           intro z2 w8 m8 s8
           have HM8 := Lib.hid (And.intro m8 s8)
           clear m8 s8))
      go_roundw
      case rel =>
        exact ⟨k + 1, z1, z2, HK.out.2, rfl, rfl, by go_num, HM7.out.2, HM8.out.2, ((HM.out.alloc _).and_then HM7.out.1).and_then HM8.out.1⟩
      case measure =>
        try rw [hw64]
        clear hw64
        have := HK.out.2
        show n - ((k : Int) + 1).toNat < n - ((k : Int)).toNat
        omega
    · obtain rfl : k = n := by omega
      have hkn : ¬ (k : Int) < (k : Int) := by omega
      clear hx hy M hk hlt
      go_wp2_with fail
      go_ret2
      exact ⟨x, y, rfl, HS.out.1, HS.out.2, HM.out⟩

set_option maxRecDepth 100000 in
set_option maxHeartbeats 1000000 in
theorem rsums_any {w : World} {A : Option Addr} {n c : Nat} {u l : Nat → Int} (h : SegA w A n u l) (hn : n ≤ 9223372036854775807) :
    Calls Try.prog 27 #[.slice A n c] w fun e w' => ∃ a b, e = .returned (.tuple #[.float .f64 a, .float .f64 b]) ∧ Sim a (accF u n) ∧ Sim b (accF l n) ∧ Mod no w w' := by
  have H := Lib.hid h
  have HN := Lib.hid hn
  clear h hn
  go_enter Try.func27, Try.ntmps27
  go_wp2_with fail
  go_loopw [4, 5, 6] (SumI w n u l) (fun _ _ i _ => n - (intOf i).toNat)
  case atStart => exact ⟨0, 0, 0, Nat.zero_le _, rfl, rfl, rfl, .refl _, .refl _, Mod.refl _ _⟩
  case round =>
    obtain ⟨k, x, y, hk, rfl, rfl, rfl, hx, hy, M⟩ := hrel
    have HS := Lib.hid (And.intro hx hy)
    have HM := Lib.hid M
    by_cases hlt : k < n
    · obtain ⟨b, o, rfl, hc⟩ := (H.out.mod M) (by omega)
      obtain ⟨s, p, hh, c0, c1, c2, c3, c4⟩ := hc k hlt
      have hkn : (k : Int) < (n : Int) := by omega
      have hk0 : (0 : Int) ≤ (k : Int) := by omega
      have hbl := cell_lt c2
      have HC2 := Lib.hid (And.intro hbl c2)
      have hw64 : wrap64 ((k : Int) + 1) = (k : Int) + 1 := IntWalk.wrap64_in _ (by have := HN.out; omega)
      have HK := Lib.hid (And.intro hk hlt)
      clear hx hy M hc hk hlt c0 c3 c4
      go_wp2_with (first
        | (refine wpList_f rfl (.tmp 13) (.tmp 19) .add _ _ rfl (.inl rfl) _ rfl rfl HS.out.1 (Sim.refl (floatOfInt .f64 (u k))) ?_
           intro z1 w7 m7 s7
           have d2 : w7.cell? ⟨b, o + k * 5 + 2, none⟩ = some (.int .i64 (l k)) := by rw [m7.cell (p := ⟨b, o + k * 5 + 2, none⟩) HC2.out.1 (fun c => c)]; exact HC2.out.2
           have HM7 := Lib.hid (And.intro m7 s7)
           clear m7 s7)
        | (refine wpList_f rfl (.tmp 21) (.tmp 27) .add _ _ rfl (.inl rfl) _ rfl rfl HS.out.2 (Sim.refl (floatOfInt .f64 (l k))) ?_
           intro z2 w8 m8 s8
           have HM8 := Lib.hid (And.intro m8 s8)
           clear m8 s8))
      go_roundw
      case rel =>
        exact ⟨k + 1, z1, z2, HK.out.2, rfl, rfl, by go_num, HM7.out.2, HM8.out.2, (HM.out.and_then HM7.out.1).and_then HM8.out.1⟩
      case measure =>
        try rw [hw64]
        clear hw64
        have := HK.out.2
        show n - ((k : Int) + 1).toNat < n - ((k : Int)).toNat
        omega
    · obtain rfl : k = n := by omega
      have hkn : ¬ (k : Int) < (k : Int) := by omega
      clear hx hy M hk hlt
      go_wp2_with fail
      go_ret2
      exact ⟨x, y, rfl, HS.out.1, HS.out.2, HM.out⟩

/-- The share that is not live. -/
def wasteF (n : Nat) (u l : Nat → Int) : Nat := fop .quo (fop .sub (accF u n) (accF l n)) (accF u n)

set_option maxRecDepth 100000 in
set_option maxHeartbeats 1000000 in
theorem waste_any {w : World} {A : Option Addr} {n c : Nat} {u l : Nat → Int} (h : SegA w A n u l) (hn : n ≤ 9223372036854775807) :
    Calls Try.prog 11 #[.slice A n c] w fun e w' => ∃ a, e = .returned (.float .f64 a) ∧ Sim a (wasteF n u l) ∧ Mod no w w' := by
  have H := Lib.hid h
  have HN := Lib.hid hn
  clear h hn
  go_enter Try.func11, Try.ntmps11
  go_wp2_with (first
    | (go_at_call 26; refine (sums_any H.out HN.out).mono ?_; rintro e w1 ⟨a, b, rfl, sa, sb, m1⟩; have H1 := Lib.hid (And.intro sa (And.intro sb m1)); clear sa sb m1)
    | (refine wpList_f rfl (.tmp 10) (.tmp 11) .sub _ _ rfl (.inr (.inl rfl)) _ rfl rfl H1.out.1 H1.out.2.1 ?_
       intro z1 w2 m2 s2
       have H2 := Lib.hid (And.intro s2 m2)
       clear s2 m2)
    | (refine wpList_f rfl (.tmp 12) (.tmp 13) .quo _ _ rfl (.inr (.inr (.inr rfl))) _ rfl rfl H2.out.1 H1.out.1 ?_
       intro z2 w3 m3 s3
       have H3 := Lib.hid (And.intro s3 m3)
       clear s3 m3))
  go_ret
  exact ⟨z2, rfl, H3.out.1, (H1.out.2.2.and_then H2.out.2).and_then H3.out.2⟩

set_option maxRecDepth 100000 in
set_option maxHeartbeats 1000000 in
theorem rwaste_any {w : World} {A : Option Addr} {n c : Nat} {u l : Nat → Int} (h : SegA w A n u l) (hn : n ≤ 9223372036854775807) :
    Calls Try.prog 12 #[.slice A n c] w fun e w' => ∃ a, e = .returned (.float .f64 a) ∧ Sim a (wasteF n u l) ∧ Mod no w w' := by
  have H := Lib.hid h
  have HN := Lib.hid hn
  clear h hn
  go_enter Try.func12, Try.ntmps12
  go_wp2_with (first
    | (go_at_call 27; refine (rsums_any H.out HN.out).mono ?_; rintro e w1 ⟨a, b, rfl, sa, sb, m1⟩; have H1 := Lib.hid (And.intro sa (And.intro sb m1)); clear sa sb m1)
    | (refine wpList_f rfl (.tmp 11) (.tmp 12) .sub _ _ rfl (.inr (.inl rfl)) _ rfl rfl H1.out.1 H1.out.2.1 ?_
       intro z1 w2 m2 s2
       have H2 := Lib.hid (And.intro s2 m2)
       clear s2 m2)
    | (refine wpList_f rfl (.tmp 14) (.tmp 15) .quo _ _ rfl (.inr (.inr (.inr rfl))) _ rfl rfl H2.out.1 H1.out.1 ?_
       intro z2 w3 m3 s3
       have H3 := Lib.hid (And.intro s3 m3)
       clear s3 m3))
  go_ret
  exact ⟨z2, rfl, H3.out.1, (H1.out.2.2.and_then H2.out.2).and_then H3.out.2⟩

/-- The room, and the share of it that is free. -/
def roomF (size : Int) (n : Nat) : Nat := fop .mul (floatOfInt .f64 size) (floatOfInt .f64 (n : Int))
def freeF (size : Int) (n : Nat) (u : Nat → Int) : Nat := fop .quo (fop .sub (roomF size n) (accF u n)) (roomF size n)
def geqF (a b : Nat) : Bool := FloatKind.f64.format.order a b == some .gt || FloatKind.f64.format.order a b == some .eq
def lssF (a b : Nat) : Bool := FloatKind.f64.format.order a b == some .lt
def dueF (size : Int) (n : Nat) (u l : Nat → Int) (p q : Nat) : Bool := geqF (wasteF n u l) p || lssF (freeF size n u) q
theorem geq_sim {a a' b b' : Nat} (h : Sim a a') (h' : Sim b b') : geqF a b = geqF a' b' := by unfold geqF; rw [order_sim h h']
theorem lss_sim {a a' b b' : Nat} (h : Sim a a') (h' : Sim b b') : lssF a b = lssF a' b' := by unfold lssF; rw [order_sim h h']
set_option maxRecDepth 100000 in
set_option maxHeartbeats 1000000 in
theorem due_any {w : World} {A : Option Addr} {n c p q p' q' : Nat} {u l : Nat → Int} (size : Int) (h : SegA w A n u l) (hn : n ≤ 9223372036854775807) (sp : Sim p p') (sq : Sim q q') :
    Calls Try.prog 13 #[.slice A n c, .int .i64 size, .float .f64 p, .float .f64 q] w fun e w' => e = .returned (.bool (dueF size n u l p' q')) ∧ Mod no w w' := by
  have H := Lib.hid h
  have HN := Lib.hid hn
  have HP := Lib.hid (And.intro sp sq)
  obtain ⟨b0, hb0⟩ : ∃ b0, b0 = FloatKind.f64.format.order (wasteF n u l) p' := ⟨_, rfl⟩
  have HB := Lib.hid hb0
  clear h hn sp sq hb0
  rcases b0 with _ | b0
  rotate_left
  cases b0
  all_goals
    go_enter Try.func13, Try.ntmps13
    go_wp2_with (first
      | (go_at_call 26; refine (sums_any H.out HN.out).mono ?_; rintro e w1 ⟨a, b, rfl, sa, sb, m1⟩; have H1 := Lib.hid (And.intro sa (And.intro sb m1)); clear sa sb m1)
      | (refine wpList_f rfl (.tmp 18) (.tmp 21) .mul _ _ rfl (.inr (.inr (.inl rfl))) _ rfl rfl (Sim.refl (floatOfInt .f64 size)) (Sim.refl (floatOfInt .f64 (n : Int))) ?_
         intro z1 w2 m2 s2
         have H2 := Lib.hid (And.intro s2 m2)
         clear s2 m2)
      | (go_at_call 11; refine (waste_any (H.out.mod (H1.out.2.2.and_then H2.out.2)) HN.out).mono ?_
         rintro e w3 ⟨z3, rfl, s3, m3⟩
         have ho : FloatKind.f64.format.order z3 p = _ := (order_sim s3 HP.out.1).trans HB.out.symm
         have H3 := Lib.hid (And.intro s3 m3)
         clear s3 m3)
      | (refine wpList_f rfl (.tmp 28) (.tmp 29) .sub _ _ rfl (.inr (.inl rfl)) _ rfl rfl H2.out.1 H1.out.1 ?_
         intro z4 w4 m4 s4
         have H4 := Lib.hid (And.intro s4 m4)
         clear s4 m4)
      | (refine wpList_f rfl (.tmp 30) (.tmp 31) .quo _ _ rfl (.inr (.inr (.inr rfl))) _ rfl rfl H4.out.1 H2.out.1 ?_
         intro z5 w5 m5 s5
         have H5 := Lib.hid (And.intro s5 m5)
         clear s5 m5))
    go_ret
    refine ⟨?_, ?_⟩
    · show Ending.returned (.bool _) = Ending.returned (.bool _)
      unfold dueF geqF
      rw [← HB.out]
      first
        | rfl
        | (have e5 := lss_sim H5.out.1 HP.out.2
           unfold lssF at e5
           rw [e5]
           rfl)
    · first
        | exact (((H1.out.2.2.and_then H2.out.2).and_then H3.out.2).and_then H4.out.2).and_then H5.out.2
        | exact (H1.out.2.2.and_then H2.out.2).and_then H3.out.2

set_option maxRecDepth 100000 in
set_option maxHeartbeats 1000000 in
theorem rdue_any {w : World} {A : Option Addr} {n c p q p' q' : Nat} {u l : Nat → Int} (size : Int) (h : SegA w A n u l) (hn : n ≤ 9223372036854775807) (sp : Sim p p') (sq : Sim q q') :
    Calls Try.prog 14 #[.slice A n c, .int .i64 size, .float .f64 p, .float .f64 q] w fun e w' => e = .returned (.bool (dueF size n u l p' q')) ∧ Mod no w w' := by
  have H := Lib.hid h
  have HN := Lib.hid hn
  have HP := Lib.hid (And.intro sp sq)
  obtain ⟨b0, hb0⟩ : ∃ b0, b0 = FloatKind.f64.format.order (wasteF n u l) p' := ⟨_, rfl⟩
  have HB := Lib.hid hb0
  clear h hn sp sq hb0
  rcases b0 with _ | b0
  rotate_left
  cases b0
  all_goals
    go_enter Try.func14, Try.ntmps14
    go_wp2_with (first
      | (go_at_call 27; refine (rsums_any H.out HN.out).mono ?_; rintro e w1 ⟨a, b, rfl, sa, sb, m1⟩; have H1 := Lib.hid (And.intro sa (And.intro sb m1)); clear sa sb m1)
      | (refine wpList_f rfl (.tmp 25) (.tmp 26) .mul _ _ rfl (.inr (.inr (.inl rfl))) _ rfl rfl (Sim.refl (floatOfInt .f64 size)) (Sim.refl (floatOfInt .f64 (n : Int))) ?_
         intro z1 w2 m2 s2
         have H2 := Lib.hid (And.intro s2 m2)
         clear s2 m2)
      | (go_at_call 12; refine (rwaste_any (H.out.mod (((H1.out.2.2.and_then H2.out.2).and_then H4.out.2).and_then H5.out.2)) HN.out).mono ?_
         rintro e w3 ⟨z3, rfl, s3, m3⟩
         have ho : FloatKind.f64.format.order z3 p = _ := (order_sim s3 HP.out.1).trans HB.out.symm
         have H3 := Lib.hid (And.intro s3 m3)
         clear s3 m3)
      | (refine wpList_f rfl (.tmp 28) (.tmp 29) .sub _ _ rfl (.inr (.inl rfl)) _ rfl rfl H2.out.1 H1.out.1 ?_
         intro z4 w4 m4 s4
         have H4 := Lib.hid (And.intro s4 m4)
         clear s4 m4)
      | (refine wpList_f rfl (.tmp 31) (.tmp 32) .quo _ _ rfl (.inr (.inr (.inr rfl))) _ rfl rfl H4.out.1 H2.out.1 ?_
         intro z5 w5 m5 s5
         have H5 := Lib.hid (And.intro s5 m5)
         clear s5 m5))
    go_ret
    refine ⟨?_, ?_⟩
    · show Ending.returned (.bool _) = Ending.returned (.bool _)
      unfold dueF geqF
      rw [← HB.out]
      have e5 := lss_sim H5.out.1 HP.out.2
      unfold lssF at e5
      first
        | rfl
        | (have e5 := lss_sim H5.out.1 HP.out.2
           unfold lssF at e5
           rw [e5]
           rfl)
    · exact (((H1.out.2.2.and_then H2.out.2).and_then H4.out.2).and_then H5.out.2).and_then H3.out.2

set_option maxRecDepth 100000 in
set_option maxHeartbeats 1000000 in
/-- The law's same. -/
theorem same_any {w : World} {a b z : Nat} (sa : Sim a z) (sb : Sim b z) :
    Calls Try.prog 10 #[.float .f64 a, .float .f64 b] w fun e w' => e = .returned (.bool true) ∧ w = w' := by
  by_cases hz : nanB z
  · have na : ∀ {x : Nat}, Sim x z → nanB x := fun {x} h => by
      rcases h with rfl | h
      · exact hz
      · exact h.1
    have o1 := order_nan (na sa) b
    have o2 := order_nan (na sa) a
    have o3 := order_nan (na sb) b
    clear sa sb
    go_enter Try.func10, Try.ntmps10
    go_wp2_with fail
    go_ret
    exact ⟨rfl, rfl⟩
  · have ea : a = z := sa.elim id fun h => absurd h.2 hz
    have eb : b = z := sb.elim id fun h => absurd h.2 hz
    subst ea
    subst eb
    have o1 := order_self hz
    clear sa sb
    go_enter Try.func10, Try.ntmps10
    go_wp2_with fail
    go_ret
    exact ⟨rfl, rfl⟩

theorem frombits_nan (W : World) : (callFunc 25 #[.int .u64 9221120237041090561]).run Try.prog W = .ok (.value (.float .f64 qnan)) W := by kernel_rfl

set_option maxRecDepth 100000 in
theorem nan_any (w : World) : Calls Try.prog 9 #[] w fun e w' => e = .returned (.float .f64 qnan) ∧ w = w' := by
  have hf := frombits_nan
  go_enter Try.func9, Try.ntmps9
  go_wp2_with fail
  go_ret
  exact ⟨rfl, rfl⟩

end Go.Proofs.Ytoncjoelkenjnaa.WS
