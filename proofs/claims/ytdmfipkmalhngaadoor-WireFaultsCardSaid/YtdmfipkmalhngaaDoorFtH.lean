/- The law WireFaults: the walk. -/
import Derived.Test.YtdmfipkmalhngaaDoorFtG
namespace Go.Proofs.YtdmfipkmalhngaaDoor.FT
open Go.RowKit Mem Go.Extern.Stop Go.Stop Go.Extern
set_option linter.unusedVariables false
set_option linter.unusedSimpArgs false

def In64 (n : Int) : Prop := -9223372036854775808 ≤ n ∧ n ≤ 9223372036854775807
def ErrT (w : World) : Prop := w.cell? ⟨0, 0, none⟩ = some (.iface 53 (.agg #[.pointer (some ⟨4, 28, none⟩)]))
theorem ErrT.mod {w w' : World} (h : ErrT w) (m : Mod no w w') : ErrT w' := by
  have hlt : 0 < w.heap.size := by
    rcases Nat.eq_zero_or_pos w.heap.size with h0 | h1
    · simp [ErrT, World.cell?, h0] at h
    · exact h1
  exact (m.cell (p := ⟨0, 0, none⟩) hlt (fun c => c)).trans h
theorem fault_unwrap {w : World} (a c : Int) : Calls Tryd.prog 6 #[.agg #[.int .i64 a, .int .i64 c]] w fun e w' => e = .returned (.iface 22 (.int .i64 c)) ∧ Mod no w w' := by
  go_enter Tryd.func6, Tryd.ntmps6
  go_wp2
  go_ret
  exact ⟨rfl, (Mod.refl no w).alloc _⟩
set_option maxRecDepth 100000 in
set_option maxHeartbeats 1000000 in
theorem law_walk {a c x : Int} {w : World} (ha : In64 a) (hc : In64 c) (hx : In64 x) (hT : TW w) (hE : ErrT w) :
    Calls Tryd.prog 3 #[.int .i64 a, .int .i64 c, .int .i64 x] w fun e w' => e = .returned (.bool true) ∧ Mod no w w' := by
  have HF := Lib.hid (fun (W : World) (m : Mod no w W) => fault_error ha.1 ha.2 hc.1 hc.2 (hT.mod m))
  have HD := Lib.hid (fun (n : Int) (h : In64 n) (W : World) => digits_any (w := W) h.1 h.2)
  have hin := Lib.hid (And.intro ha hc)
  have HX := Lib.hid (fun (W : World) (m : Mod no w W) => hE.mod m)
  have HT := Lib.hid (text_law (Lib.itoa a) (Lib.itoa c))
  have hz1 : (sv (Lib.itoa a)).size ≤ 21 := by rw [sv_size]; exact itoa_len ha.1 ha.2
  have hz2 : (sv (Lib.itoa c)).size ≤ 21 := by rw [sv_size]; exact itoa_len hc.1 hc.2
  have hB0 := Blk.new w 24 #[.int .i64 a, .int .i64 c]
  have HB := Lib.hid hB0
  clear hB0 ha hc hx hT hE
  generalize hFT : faultText a c = T at *
  have hT2 := Lib.hid (show [97, 116, 32] ++ Lib.itoa a ++ [58, 32] ++ ([101, 114, 114, 111, 114, 32] ++ Lib.itoa c) = T from hFT)
  clear hFT
  generalize Lib.itoa = I at *
  have htl : (({data := #[97, 116, 32]} ++ sv (I a)) ++ {data := #[58, 32, 101, 114, 114, 111, 114, 32]}) ++ sv (I c) = sv T := by rw [HT.out, hT2.out]
  have hdx : decide (c = x) = (x == c) := by
    by_cases hcx : c = x
    · subst hcx; simp
    · simp [hcx, Ne.symm hcx]
  have n1 := neqErr
  have n2 := neqFault
  go_enter Tryd.func3, Tryd.ntmps3
  go_wp2_with (first
    | (go_at_call 4; refine (HF.out _ ?_).mono ?_; exact (Mod.refl no w).alloc _; rintro e w2 ⟨rfl, m2⟩; have M2 := Lib.hid m2; clear m2)
    | (go_at_call 5; refine (HD.out _ ?_ _).mono ?_; (first | exact hin.out.1 | exact hin.out.2); rintro e w3 ⟨rfl, m3⟩; (first
        | (have M4 := Lib.hid ((M2.out.and_then M3.out).and_then m3); clear m3 M2 M3; have B4 := Lib.hid (HB.out.mod M4.out (fun c => c)); have c0 := B4.out.cell 0; have c1 := B4.out.cell 1)
        | (have M3 := Lib.hid m3; clear m3)))
    | (go_at_call 6; refine (fault_unwrap a c).mono ?_; rintro e w5 ⟨rfl, m5⟩; have M5 := Lib.hid (M4.out.and_then m5); have B5 := Lib.hid (B4.out.mod m5 (fun c => c)); clear m5 M4 B4 c0 c1; have c0 := B5.out.cell 0; have c1 := B5.out.cell 1; have hs5 := B5.out.lt))
  refine (as_wrapped a c 0 0 _ _ ?_ ?_).mono ?_
  exact HX.out _ (((((Mod.refl no w).alloc _).and_then M5.out).alloc _).alloc _)
  exact Blk.new_at _ _ _ (by simp)
  rintro e w6 ⟨rfl, m6, b6⟩
  have M6 := Lib.hid (show Mod no w w6 from (((((Mod.refl no w).alloc _).and_then M5.out).alloc _).alloc _).trans m6 (fun k hk h => by have h1 : k = _ := h; have h2 := B5.out.lt; omega))
  have BF := Lib.hid (((B5.out.alloc _).alloc _).mod m6 (fun h => by have h1 : w.heap.size = _ := h; have h2 := B5.out.lt; omega))
  have BW := Lib.hid (((Blk.new w5 31 #[.iface 31 (.agg #[.iface 24 (.agg #[.int .i64 a, .int .i64 c])])]).alloc _).mod m6 (fun h => by have h1 : w5.heap.size = _ := h; omega))
  have HW := Lib.hid (fun (W : World) (m : Mod no w6 W) => And.intro (((BF.out.mod m (fun c => c))).cell 0) (And.intro ((BF.out.mod m (fun c => c)).cell 1) ((BW.out.mod m (fun c => c)).cell 0)))
  have g0 := b6.cell 0
  have g1 := b6.cell 1
  clear c0 c1 m6 b6
  have c0 := BF.out.cell 0
  have c1 := BF.out.cell 1
  have c2 := BW.out.cell 0
  clear BF BW B5 M5
  go_wp2_with (first
    | (go_at_call 8; (first
        | (have N := N8; refine (is_fault a c _ _).mono ?_; rintro e w7 ⟨rfl, m7⟩; have N9 := Lib.hid (N8.out.and_then m7); clear m7 N8 N)
        | (have N := N7; refine (is_wrapped a c _ _).mono ?_; rintro e w7 ⟨rfl, m7⟩; have N8 := Lib.hid (N7.out.and_then m7); clear m7 N7 N; have k0 := (HW.out _ N8.out).1; have k1 := (HW.out _ N8.out).2.1; have k2 := (HW.out _ N8.out).2.2)
        | (refine (is_wrapped a c _ _).mono ?_; rintro e w7 ⟨rfl, m7⟩; have N7 := Lib.hid m7; clear m7; have k0 := (HW.out _ N7.out).1; have k1 := (HW.out _ N7.out).2.1; have k2 := (HW.out _ N7.out).2.2))))
  go_ret
  exact ⟨rfl, M6.out.and_then N9.out⟩
end Go.Proofs.YtdmfipkmalhngaaDoor.FT
