/- The program's taker: numbers of a fixed width (printed by wiretake.py). -/
import Derived.Test.YtpfkcejndjnbhaaWireN
import Derived.StillTailTactics
namespace Go.Proofs.Ytpfkcejndjnbhaa.WD
open Go.RowKit Mem WM
set_option linter.unusedVariables false
set_option linter.unusedSimpArgs false


theorem width_int8 (w : World) : Calls Try.prog 76 #[] w fun e w' => e = .returned (.int .i64 1) ∧ w = w' := by
  go_enter Try.func76, Try.ntmps76
  go_wp2
  go_loop [1, 2] (fun n v => ∃ k : Nat, k ≤ 1 ∧ n = .int .i64 (k : Int) ∧ v = .int .i8 (if k = 1 then 0 else 256 ^ k)) (fun n _ => 2 - (intOf n).toNat)
  case atStart => exact ⟨0, by omega, rfl, rfl⟩
  case round =>
    obtain ⟨k, hk, rfl, rfl⟩ := hrel
    have hk' : k = 0 ∨ k = 1 := by omega
    rcases hk' with rfl | rfl
    all_goals go_wp2
    all_goals first
      | (go_ret; exact ⟨rfl, rfl⟩)
      | skip
    · go_round
      case rel => exact ⟨1, by omega, rfl, by first | rfl | (unfold wrap32; rfl) | (unfold wrap64; rfl)⟩
      case measure => simp [intOf]

theorem width_uint8 (w : World) : Calls Try.prog 77 #[] w fun e w' => e = .returned (.int .i64 1) ∧ w = w' := by
  go_enter Try.func77, Try.ntmps77
  go_wp2
  go_loop [1, 2] (fun n v => ∃ k : Nat, k ≤ 1 ∧ n = .int .i64 (k : Int) ∧ v = .int .u8 (if k = 1 then 0 else 256 ^ k)) (fun n _ => 2 - (intOf n).toNat)
  case atStart => exact ⟨0, by omega, rfl, rfl⟩
  case round =>
    obtain ⟨k, hk, rfl, rfl⟩ := hrel
    have hk' : k = 0 ∨ k = 1 := by omega
    rcases hk' with rfl | rfl
    all_goals go_wp2
    all_goals first
      | (go_ret; exact ⟨rfl, rfl⟩)
      | skip
    · go_round
      case rel => exact ⟨1, by omega, rfl, by first | rfl | (unfold wrap32; rfl) | (unfold wrap64; rfl)⟩
      case measure => simp [intOf]

theorem width_int16 (w : World) : Calls Try.prog 78 #[] w fun e w' => e = .returned (.int .i64 2) ∧ w = w' := by
  go_enter Try.func78, Try.ntmps78
  go_wp2
  go_loop [1, 2] (fun n v => ∃ k : Nat, k ≤ 2 ∧ n = .int .i64 (k : Int) ∧ v = .int .i16 (if k = 2 then 0 else 256 ^ k)) (fun n _ => 3 - (intOf n).toNat)
  case atStart => exact ⟨0, by omega, rfl, rfl⟩
  case round =>
    obtain ⟨k, hk, rfl, rfl⟩ := hrel
    have hk' : k = 0 ∨ k = 1 ∨ k = 2 := by omega
    rcases hk' with rfl | rfl | rfl
    all_goals go_wp2
    all_goals first
      | (go_ret; exact ⟨rfl, rfl⟩)
      | skip
    · go_round
      case rel => exact ⟨1, by omega, rfl, by first | rfl | (unfold wrap32; rfl) | (unfold wrap64; rfl)⟩
      case measure => simp [intOf]
    · go_round
      case rel => exact ⟨2, by omega, rfl, by first | rfl | (unfold wrap32; rfl) | (unfold wrap64; rfl)⟩
      case measure => simp [intOf]

theorem width_uint16 (w : World) : Calls Try.prog 79 #[] w fun e w' => e = .returned (.int .i64 2) ∧ w = w' := by
  go_enter Try.func79, Try.ntmps79
  go_wp2
  go_loop [1, 2] (fun n v => ∃ k : Nat, k ≤ 2 ∧ n = .int .i64 (k : Int) ∧ v = .int .u16 (if k = 2 then 0 else 256 ^ k)) (fun n _ => 3 - (intOf n).toNat)
  case atStart => exact ⟨0, by omega, rfl, rfl⟩
  case round =>
    obtain ⟨k, hk, rfl, rfl⟩ := hrel
    have hk' : k = 0 ∨ k = 1 ∨ k = 2 := by omega
    rcases hk' with rfl | rfl | rfl
    all_goals go_wp2
    all_goals first
      | (go_ret; exact ⟨rfl, rfl⟩)
      | skip
    · go_round
      case rel => exact ⟨1, by omega, rfl, by first | rfl | (unfold wrap32; rfl) | (unfold wrap64; rfl)⟩
      case measure => simp [intOf]
    · go_round
      case rel => exact ⟨2, by omega, rfl, by first | rfl | (unfold wrap32; rfl) | (unfold wrap64; rfl)⟩
      case measure => simp [intOf]

theorem width_int32 (w : World) : Calls Try.prog 80 #[] w fun e w' => e = .returned (.int .i64 4) ∧ w = w' := by
  go_enter Try.func80, Try.ntmps80
  go_wp2
  go_loop [1, 2] (fun n v => ∃ k : Nat, k ≤ 4 ∧ n = .int .i64 (k : Int) ∧ v = .int .i32 (if k = 4 then 0 else 256 ^ k)) (fun n _ => 5 - (intOf n).toNat)
  case atStart => exact ⟨0, by omega, rfl, rfl⟩
  case round =>
    obtain ⟨k, hk, rfl, rfl⟩ := hrel
    have hk' : k = 0 ∨ k = 1 ∨ k = 2 ∨ k = 3 ∨ k = 4 := by omega
    rcases hk' with rfl | rfl | rfl | rfl | rfl
    all_goals go_wp2
    all_goals first
      | (go_ret; exact ⟨rfl, rfl⟩)
      | skip
    · go_round
      case rel => exact ⟨1, by omega, rfl, by first | rfl | (unfold wrap32; rfl) | (unfold wrap64; rfl)⟩
      case measure => simp [intOf]
    · go_round
      case rel => exact ⟨2, by omega, rfl, by first | rfl | (unfold wrap32; rfl) | (unfold wrap64; rfl)⟩
      case measure => simp [intOf]
    · go_round
      case rel => exact ⟨3, by omega, rfl, by first | rfl | (unfold wrap32; rfl) | (unfold wrap64; rfl)⟩
      case measure => simp [intOf]
    · go_round
      case rel => exact ⟨4, by omega, rfl, by first | rfl | (unfold wrap32; rfl) | (unfold wrap64; rfl)⟩
      case measure => simp [intOf]

theorem width_uint32 (w : World) : Calls Try.prog 81 #[] w fun e w' => e = .returned (.int .i64 4) ∧ w = w' := by
  go_enter Try.func81, Try.ntmps81
  go_wp2
  go_loop [1, 2] (fun n v => ∃ k : Nat, k ≤ 4 ∧ n = .int .i64 (k : Int) ∧ v = .int .u32 (if k = 4 then 0 else 256 ^ k)) (fun n _ => 5 - (intOf n).toNat)
  case atStart => exact ⟨0, by omega, rfl, rfl⟩
  case round =>
    obtain ⟨k, hk, rfl, rfl⟩ := hrel
    have hk' : k = 0 ∨ k = 1 ∨ k = 2 ∨ k = 3 ∨ k = 4 := by omega
    rcases hk' with rfl | rfl | rfl | rfl | rfl
    all_goals go_wp2
    all_goals first
      | (go_ret; exact ⟨rfl, rfl⟩)
      | skip
    · go_round
      case rel => exact ⟨1, by omega, rfl, by first | rfl | (unfold wrap32; rfl) | (unfold wrap64; rfl)⟩
      case measure => simp [intOf]
    · go_round
      case rel => exact ⟨2, by omega, rfl, by first | rfl | (unfold wrap32; rfl) | (unfold wrap64; rfl)⟩
      case measure => simp [intOf]
    · go_round
      case rel => exact ⟨3, by omega, rfl, by first | rfl | (unfold wrap32; rfl) | (unfold wrap64; rfl)⟩
      case measure => simp [intOf]
    · go_round
      case rel => exact ⟨4, by omega, rfl, by first | rfl | (unfold wrap32; rfl) | (unfold wrap64; rfl)⟩
      case measure => simp [intOf]

theorem width_int64 (w : World) : Calls Try.prog 82 #[] w fun e w' => e = .returned (.int .i64 8) ∧ w = w' := by
  go_enter Try.func82, Try.ntmps82
  go_wp2
  go_loop [1, 2] (fun n v => ∃ k : Nat, k ≤ 8 ∧ n = .int .i64 (k : Int) ∧ v = .int .i64 (if k = 8 then 0 else 256 ^ k)) (fun n _ => 9 - (intOf n).toNat)
  case atStart => exact ⟨0, by omega, rfl, rfl⟩
  case round =>
    obtain ⟨k, hk, rfl, rfl⟩ := hrel
    have hk' : k = 0 ∨ k = 1 ∨ k = 2 ∨ k = 3 ∨ k = 4 ∨ k = 5 ∨ k = 6 ∨ k = 7 ∨ k = 8 := by omega
    rcases hk' with rfl | rfl | rfl | rfl | rfl | rfl | rfl | rfl | rfl
    all_goals go_wp2
    all_goals first
      | (go_ret; exact ⟨rfl, rfl⟩)
      | skip
    · go_round
      case rel => exact ⟨1, by omega, rfl, by first | rfl | (unfold wrap32; rfl) | (unfold wrap64; rfl)⟩
      case measure => simp [intOf]
    · go_round
      case rel => exact ⟨2, by omega, rfl, by first | rfl | (unfold wrap32; rfl) | (unfold wrap64; rfl)⟩
      case measure => simp [intOf]
    · go_round
      case rel => exact ⟨3, by omega, rfl, by first | rfl | (unfold wrap32; rfl) | (unfold wrap64; rfl)⟩
      case measure => simp [intOf]
    · go_round
      case rel => exact ⟨4, by omega, rfl, by first | rfl | (unfold wrap32; rfl) | (unfold wrap64; rfl)⟩
      case measure => simp [intOf]
    · go_round
      case rel => exact ⟨5, by omega, rfl, by first | rfl | (unfold wrap32; rfl) | (unfold wrap64; rfl)⟩
      case measure => simp [intOf]
    · go_round
      case rel => exact ⟨6, by omega, rfl, by first | rfl | (unfold wrap32; rfl) | (unfold wrap64; rfl)⟩
      case measure => simp [intOf]
    · go_round
      case rel => exact ⟨7, by omega, rfl, by first | rfl | (unfold wrap32; rfl) | (unfold wrap64; rfl)⟩
      case measure => simp [intOf]
    · go_round
      case rel => exact ⟨8, by omega, rfl, by first | rfl | (unfold wrap32; rfl) | (unfold wrap64; rfl)⟩
      case measure => simp [intOf]

theorem width_uint64 (w : World) : Calls Try.prog 83 #[] w fun e w' => e = .returned (.int .i64 8) ∧ w = w' := by
  go_enter Try.func83, Try.ntmps83
  go_wp2
  go_loop [1, 2] (fun n v => ∃ k : Nat, k ≤ 8 ∧ n = .int .i64 (k : Int) ∧ v = .int .u64 (if k = 8 then 0 else 256 ^ k)) (fun n _ => 9 - (intOf n).toNat)
  case atStart => exact ⟨0, by omega, rfl, rfl⟩
  case round =>
    obtain ⟨k, hk, rfl, rfl⟩ := hrel
    have hk' : k = 0 ∨ k = 1 ∨ k = 2 ∨ k = 3 ∨ k = 4 ∨ k = 5 ∨ k = 6 ∨ k = 7 ∨ k = 8 := by omega
    rcases hk' with rfl | rfl | rfl | rfl | rfl | rfl | rfl | rfl | rfl
    all_goals go_wp2
    all_goals first
      | (go_ret; exact ⟨rfl, rfl⟩)
      | skip
    · go_round
      case rel => exact ⟨1, by omega, rfl, by first | rfl | (unfold wrap32; rfl) | (unfold wrap64; rfl)⟩
      case measure => simp [intOf]
    · go_round
      case rel => exact ⟨2, by omega, rfl, by first | rfl | (unfold wrap32; rfl) | (unfold wrap64; rfl)⟩
      case measure => simp [intOf]
    · go_round
      case rel => exact ⟨3, by omega, rfl, by first | rfl | (unfold wrap32; rfl) | (unfold wrap64; rfl)⟩
      case measure => simp [intOf]
    · go_round
      case rel => exact ⟨4, by omega, rfl, by first | rfl | (unfold wrap32; rfl) | (unfold wrap64; rfl)⟩
      case measure => simp [intOf]
    · go_round
      case rel => exact ⟨5, by omega, rfl, by first | rfl | (unfold wrap32; rfl) | (unfold wrap64; rfl)⟩
      case measure => simp [intOf]
    · go_round
      case rel => exact ⟨6, by omega, rfl, by first | rfl | (unfold wrap32; rfl) | (unfold wrap64; rfl)⟩
      case measure => simp [intOf]
    · go_round
      case rel => exact ⟨7, by omega, rfl, by first | rfl | (unfold wrap32; rfl) | (unfold wrap64; rfl)⟩
      case measure => simp [intOf]
    · go_round
      case rel => exact ⟨8, by omega, rfl, by first | rfl | (unfold wrap32; rfl) | (unfold wrap64; rfl)⟩
      case measure => simp [intOf]

set_option maxRecDepth 100000 in
set_option maxHeartbeats 1000000 in
theorem take_int8 {w : World} {g gb : Nat} {bs : List UInt8} {s : St} (h : DecAt w g gb bs s) :
    Calls Try.prog 61 #[.pointer (some ⟨g, 0, none⟩)] w fun e w' =>
      e = .returned (.int .i8 (IntKind.i8.wrap ((fixA bs s 1).2 : Int))) ∧ DecAt w' g gb bs (fixA bs s 1).1 ∧ Mod (one g) w w' := by
  cases s with
  | dead a e =>
    have H := Lib.hid h
    clear h
    go_enter Try.func61, Try.ntmps61
    go_wp2_with (go_at_call 51; refine (over_dead H.out).mono ?_; rintro e w' ⟨rfl, rfl⟩)
    go_ret
    exact ⟨rfl, H.out, Mod.refl _ _⟩
  | live p =>
    have H := Lib.hid h
    obtain ⟨A, c, hb, h1, h2, h3, h4⟩ := h
    have c1 := hb.cell 1
    simp at c1
    clear h3
    have hL := h2
    unfold maxLen at hL
    by_cases hm : 1 ≤ bs.length - p
    · have hr : rawA bs (.live p) 1 = (.live (p + 1), (bs.drop p).take 1) := by simp only [rawA]; rw [if_neg (by decide), if_pos (by exact hm)]; rfl
      have ht : fixA bs (.live p) 1 = (.live (p + 1), le ((bs.drop p).take 1)) := by show ((rawA bs (.live p) 1).1, le (rawA bs (.live p) 1).2) = _; rw [hr]
      have hlen : ((bs.drop p).take 1).length = 1 := by simp; omega
      have HT := Lib.hid ht
      clear ht hr
      generalize hX : (bs.drop p).take 1 = X at *
      have HX := Lib.hid hX
      have HLN := Lib.hid hlen
      clear hX hlen
      go_enter Try.func61, Try.ntmps61
      go_wp2_with (go_at_call 51; refine (over_live H.out).mono ?_; rintro e w' ⟨rfl, rfl⟩)
      go_still_tail 6, (by kernel_rfl)
      refine wpStill_step (fun K hK => ?_)
      go_simp
      refine ⟨_, (width_int8 _).mono (fun e w' h => ⟨h.1, h.2.symm⟩), ?_⟩
      refine hK _ ?_
      clear hK K
      repeat still_step
      refine wpStill_nil ?_
      change wpList _ _ _ _ _ w.drew
      have HD : LiveAt w.drew g gb bs p := LiveAt.mod (S := no) H.out ((Mod.refl no w).drew) (fun c => c) (fun _ c => c)
      have HM : Mod (one g) w w.drew := (Mod.refl _ _).drew
      generalize w.drew = w2 at *
      go_wp2_with fail
      refine (next_ok 1 _ HD hm).mono ?_
      rintro e w3 ⟨A3, k3, rfl, L3, R3, M3⟩
      rw [HX.out] at R3
      have hXne : X ≠ [] := by intro e; have := HLN.out; rw [e] at this; simp at this
      obtain ⟨g3, o3, cs3, rfl, B3, C3⟩ := R3 hXne
      have HC := Lib.hid C3
      have HL3 := Lib.hid L3
      clear C3 L3 hXne R3
      go_wp2_with fail
      go_loop [4, 18] (fun u i => ∃ j : Nat, j ≤ 1 ∧ i = .int .i64 (j : Int) ∧ u = .int .u64 (le (X.take j) : Int)) (fun _ i => 1 - (intOf i).toNat)
      case atStart => exact ⟨0, by omega, rfl, rfl⟩
      case round =>
        obtain ⟨j, hj, rfl, rfl⟩ := hrel
        by_cases hlt : j < 1
        · have hjX : j < X.length := by rw [HLN.out]; exact hlt
          have cj : w3.cell? ⟨g3, o3 + j, none⟩ = some (.int .u8 (X[j].toNat : Int)) := by rw [B3.cell, HC.out j hjX, bvs_get X j hjX]
          have hbb := byte_lt X[j]
          obtain ⟨hb0, hb1⟩ := hbb
          have F := WB.or8_step (le (X.take j)) j X[j].toNat (by have := WB.le_lt (X.take j); rwa [List.length_take, Nat.min_eq_left (by omega)] at this) X[j].toNat_lt (by omega)
          rw [← WB.le_take X j hjX] at F
          generalize X[j].toNat = b at *
          go_wp2_with fail
          go_round
          case rel => exact ⟨j + 1, by omega, by go_num, rfl⟩
          case measure => simp [intOf]; omega
        · obtain rfl : j = 1 := by omega
          go_wp2_with fail
          go_ret
          rw [HT.out]
          refine ⟨?_, HL3.out, HM.and_then M3⟩
          rw [List.take_of_length_le (by rw [HLN.out]; exact Nat.le_refl _)]
          first
            | rfl
            | (rw [IntWalk.i32_left]; rfl)
            | (rw [IntWalk.i64_left]; rfl)
            | (have h8 : le X < 18446744073709551616 := by have := WB.le_lt X; rw [HLN.out] at this; exact this
               rw [IntWalk.u64_in _ (by omega)]; rfl)
    · have hr : rawA bs (.live p) 1 = (.dead p 10, []) := by simp only [rawA]; rw [if_neg (by decide), if_neg (by exact hm)]
      have ht : fixA bs (.live p) 1 = (.dead p 10, 0) := by show ((rawA bs (.live p) 1).1, le (rawA bs (.live p) 1).2) = _; rw [hr]; rfl
      have HT := Lib.hid ht
      clear ht hr
      go_enter Try.func61, Try.ntmps61
      go_wp2_with (go_at_call 51; refine (over_live H.out).mono ?_; rintro e w' ⟨rfl, rfl⟩)
      go_still_tail 6, (by kernel_rfl)
      refine wpStill_step (fun K hK => ?_)
      go_simp
      refine ⟨_, (width_int8 _).mono (fun e w' h => ⟨h.1, h.2.symm⟩), ?_⟩
      refine hK _ ?_
      clear hK K
      repeat still_step
      refine wpStill_nil ?_
      change wpList _ _ _ _ _ w.drew
      have HD : LiveAt w.drew g gb bs p := LiveAt.mod (S := no) H.out ((Mod.refl no w).drew) (fun c => c) (fun _ c => c)
      have HM : Mod (one g) w w.drew := (Mod.refl _ _).drew
      generalize w.drew = w2 at *
      go_wp2_with fail
      refine (next_no _ p HD (by omega) h4).mono ?_
      rintro e w3 ⟨rfl, D3, M3⟩
      have HD3 := Lib.hid D3
      clear D3
      go_wp2_with fail
      go_loop [4, 18] (fun u i => i = .int .i64 0 ∧ u = .int .u64 0) (fun _ _ => 0)
      case atStart => exact ⟨rfl, rfl⟩
      case round =>
        obtain ⟨rfl, rfl⟩ := hrel
        go_wp2_with fail
        go_ret
        rw [HT.out]
        exact ⟨rfl, HD3.out, HM.and_then M3⟩


set_option maxRecDepth 100000 in
set_option maxHeartbeats 1000000 in
theorem take_uint8 {w : World} {g gb : Nat} {bs : List UInt8} {s : St} (h : DecAt w g gb bs s) :
    Calls Try.prog 62 #[.pointer (some ⟨g, 0, none⟩)] w fun e w' =>
      e = .returned (.int .u8 (IntKind.u8.wrap ((fixA bs s 1).2 : Int))) ∧ DecAt w' g gb bs (fixA bs s 1).1 ∧ Mod (one g) w w' := by
  cases s with
  | dead a e =>
    have H := Lib.hid h
    clear h
    go_enter Try.func62, Try.ntmps62
    go_wp2_with (go_at_call 51; refine (over_dead H.out).mono ?_; rintro e w' ⟨rfl, rfl⟩)
    go_ret
    exact ⟨rfl, H.out, Mod.refl _ _⟩
  | live p =>
    have H := Lib.hid h
    obtain ⟨A, c, hb, h1, h2, h3, h4⟩ := h
    have c1 := hb.cell 1
    simp at c1
    clear h3
    have hL := h2
    unfold maxLen at hL
    by_cases hm : 1 ≤ bs.length - p
    · have hr : rawA bs (.live p) 1 = (.live (p + 1), (bs.drop p).take 1) := by simp only [rawA]; rw [if_neg (by decide), if_pos (by exact hm)]; rfl
      have ht : fixA bs (.live p) 1 = (.live (p + 1), le ((bs.drop p).take 1)) := by show ((rawA bs (.live p) 1).1, le (rawA bs (.live p) 1).2) = _; rw [hr]
      have hlen : ((bs.drop p).take 1).length = 1 := by simp; omega
      have HT := Lib.hid ht
      clear ht hr
      generalize hX : (bs.drop p).take 1 = X at *
      have HX := Lib.hid hX
      have HLN := Lib.hid hlen
      clear hX hlen
      go_enter Try.func62, Try.ntmps62
      go_wp2_with (go_at_call 51; refine (over_live H.out).mono ?_; rintro e w' ⟨rfl, rfl⟩)
      go_still_tail 6, (by kernel_rfl)
      refine wpStill_step (fun K hK => ?_)
      go_simp
      refine ⟨_, (width_uint8 _).mono (fun e w' h => ⟨h.1, h.2.symm⟩), ?_⟩
      refine hK _ ?_
      clear hK K
      repeat still_step
      refine wpStill_nil ?_
      change wpList _ _ _ _ _ w.drew
      have HD : LiveAt w.drew g gb bs p := LiveAt.mod (S := no) H.out ((Mod.refl no w).drew) (fun c => c) (fun _ c => c)
      have HM : Mod (one g) w w.drew := (Mod.refl _ _).drew
      generalize w.drew = w2 at *
      go_wp2_with fail
      refine (next_ok 1 _ HD hm).mono ?_
      rintro e w3 ⟨A3, k3, rfl, L3, R3, M3⟩
      rw [HX.out] at R3
      have hXne : X ≠ [] := by intro e; have := HLN.out; rw [e] at this; simp at this
      obtain ⟨g3, o3, cs3, rfl, B3, C3⟩ := R3 hXne
      have HC := Lib.hid C3
      have HL3 := Lib.hid L3
      clear C3 L3 hXne R3
      go_wp2_with fail
      go_loop [4, 18] (fun u i => ∃ j : Nat, j ≤ 1 ∧ i = .int .i64 (j : Int) ∧ u = .int .u64 (le (X.take j) : Int)) (fun _ i => 1 - (intOf i).toNat)
      case atStart => exact ⟨0, by omega, rfl, rfl⟩
      case round =>
        obtain ⟨j, hj, rfl, rfl⟩ := hrel
        by_cases hlt : j < 1
        · have hjX : j < X.length := by rw [HLN.out]; exact hlt
          have cj : w3.cell? ⟨g3, o3 + j, none⟩ = some (.int .u8 (X[j].toNat : Int)) := by rw [B3.cell, HC.out j hjX, bvs_get X j hjX]
          have hbb := byte_lt X[j]
          obtain ⟨hb0, hb1⟩ := hbb
          have F := WB.or8_step (le (X.take j)) j X[j].toNat (by have := WB.le_lt (X.take j); rwa [List.length_take, Nat.min_eq_left (by omega)] at this) X[j].toNat_lt (by omega)
          rw [← WB.le_take X j hjX] at F
          generalize X[j].toNat = b at *
          go_wp2_with fail
          go_round
          case rel => exact ⟨j + 1, by omega, by go_num, rfl⟩
          case measure => simp [intOf]; omega
        · obtain rfl : j = 1 := by omega
          go_wp2_with fail
          go_ret
          rw [HT.out]
          refine ⟨?_, HL3.out, HM.and_then M3⟩
          rw [List.take_of_length_le (by rw [HLN.out]; exact Nat.le_refl _)]
          first
            | rfl
            | (rw [IntWalk.i32_left]; rfl)
            | (rw [IntWalk.i64_left]; rfl)
            | (have h8 : le X < 18446744073709551616 := by have := WB.le_lt X; rw [HLN.out] at this; exact this
               rw [IntWalk.u64_in _ (by omega)]; rfl)
    · have hr : rawA bs (.live p) 1 = (.dead p 10, []) := by simp only [rawA]; rw [if_neg (by decide), if_neg (by exact hm)]
      have ht : fixA bs (.live p) 1 = (.dead p 10, 0) := by show ((rawA bs (.live p) 1).1, le (rawA bs (.live p) 1).2) = _; rw [hr]; rfl
      have HT := Lib.hid ht
      clear ht hr
      go_enter Try.func62, Try.ntmps62
      go_wp2_with (go_at_call 51; refine (over_live H.out).mono ?_; rintro e w' ⟨rfl, rfl⟩)
      go_still_tail 6, (by kernel_rfl)
      refine wpStill_step (fun K hK => ?_)
      go_simp
      refine ⟨_, (width_uint8 _).mono (fun e w' h => ⟨h.1, h.2.symm⟩), ?_⟩
      refine hK _ ?_
      clear hK K
      repeat still_step
      refine wpStill_nil ?_
      change wpList _ _ _ _ _ w.drew
      have HD : LiveAt w.drew g gb bs p := LiveAt.mod (S := no) H.out ((Mod.refl no w).drew) (fun c => c) (fun _ c => c)
      have HM : Mod (one g) w w.drew := (Mod.refl _ _).drew
      generalize w.drew = w2 at *
      go_wp2_with fail
      refine (next_no _ p HD (by omega) h4).mono ?_
      rintro e w3 ⟨rfl, D3, M3⟩
      have HD3 := Lib.hid D3
      clear D3
      go_wp2_with fail
      go_loop [4, 18] (fun u i => i = .int .i64 0 ∧ u = .int .u64 0) (fun _ _ => 0)
      case atStart => exact ⟨rfl, rfl⟩
      case round =>
        obtain ⟨rfl, rfl⟩ := hrel
        go_wp2_with fail
        go_ret
        rw [HT.out]
        exact ⟨rfl, HD3.out, HM.and_then M3⟩


set_option maxRecDepth 100000 in
set_option maxHeartbeats 1000000 in
theorem take_int16 {w : World} {g gb : Nat} {bs : List UInt8} {s : St} (h : DecAt w g gb bs s) :
    Calls Try.prog 63 #[.pointer (some ⟨g, 0, none⟩)] w fun e w' =>
      e = .returned (.int .i16 (IntKind.i16.wrap ((fixA bs s 2).2 : Int))) ∧ DecAt w' g gb bs (fixA bs s 2).1 ∧ Mod (one g) w w' := by
  cases s with
  | dead a e =>
    have H := Lib.hid h
    clear h
    go_enter Try.func63, Try.ntmps63
    go_wp2_with (go_at_call 51; refine (over_dead H.out).mono ?_; rintro e w' ⟨rfl, rfl⟩)
    go_ret
    exact ⟨rfl, H.out, Mod.refl _ _⟩
  | live p =>
    have H := Lib.hid h
    obtain ⟨A, c, hb, h1, h2, h3, h4⟩ := h
    have c1 := hb.cell 1
    simp at c1
    clear h3
    have hL := h2
    unfold maxLen at hL
    by_cases hm : 2 ≤ bs.length - p
    · have hr : rawA bs (.live p) 2 = (.live (p + 2), (bs.drop p).take 2) := by simp only [rawA]; rw [if_neg (by decide), if_pos (by exact hm)]; rfl
      have ht : fixA bs (.live p) 2 = (.live (p + 2), le ((bs.drop p).take 2)) := by show ((rawA bs (.live p) 2).1, le (rawA bs (.live p) 2).2) = _; rw [hr]
      have hlen : ((bs.drop p).take 2).length = 2 := by simp; omega
      have HT := Lib.hid ht
      clear ht hr
      generalize hX : (bs.drop p).take 2 = X at *
      have HX := Lib.hid hX
      have HLN := Lib.hid hlen
      clear hX hlen
      go_enter Try.func63, Try.ntmps63
      go_wp2_with (go_at_call 51; refine (over_live H.out).mono ?_; rintro e w' ⟨rfl, rfl⟩)
      go_still_tail 6, (by kernel_rfl)
      refine wpStill_step (fun K hK => ?_)
      go_simp
      refine ⟨_, (width_int16 _).mono (fun e w' h => ⟨h.1, h.2.symm⟩), ?_⟩
      refine hK _ ?_
      clear hK K
      repeat still_step
      refine wpStill_nil ?_
      change wpList _ _ _ _ _ w.drew
      have HD : LiveAt w.drew g gb bs p := LiveAt.mod (S := no) H.out ((Mod.refl no w).drew) (fun c => c) (fun _ c => c)
      have HM : Mod (one g) w w.drew := (Mod.refl _ _).drew
      generalize w.drew = w2 at *
      go_wp2_with fail
      refine (next_ok 2 _ HD hm).mono ?_
      rintro e w3 ⟨A3, k3, rfl, L3, R3, M3⟩
      rw [HX.out] at R3
      have hXne : X ≠ [] := by intro e; have := HLN.out; rw [e] at this; simp at this
      obtain ⟨g3, o3, cs3, rfl, B3, C3⟩ := R3 hXne
      have HC := Lib.hid C3
      have HL3 := Lib.hid L3
      clear C3 L3 hXne R3
      go_wp2_with fail
      go_loop [4, 18] (fun u i => ∃ j : Nat, j ≤ 2 ∧ i = .int .i64 (j : Int) ∧ u = .int .u64 (le (X.take j) : Int)) (fun _ i => 2 - (intOf i).toNat)
      case atStart => exact ⟨0, by omega, rfl, rfl⟩
      case round =>
        obtain ⟨j, hj, rfl, rfl⟩ := hrel
        by_cases hlt : j < 2
        · have hjX : j < X.length := by rw [HLN.out]; exact hlt
          have cj : w3.cell? ⟨g3, o3 + j, none⟩ = some (.int .u8 (X[j].toNat : Int)) := by rw [B3.cell, HC.out j hjX, bvs_get X j hjX]
          have hbb := byte_lt X[j]
          obtain ⟨hb0, hb1⟩ := hbb
          have F := WB.or8_step (le (X.take j)) j X[j].toNat (by have := WB.le_lt (X.take j); rwa [List.length_take, Nat.min_eq_left (by omega)] at this) X[j].toNat_lt (by omega)
          rw [← WB.le_take X j hjX] at F
          generalize X[j].toNat = b at *
          go_wp2_with fail
          go_round
          case rel => exact ⟨j + 1, by omega, by go_num, rfl⟩
          case measure => simp [intOf]; omega
        · obtain rfl : j = 2 := by omega
          go_wp2_with fail
          go_ret
          rw [HT.out]
          refine ⟨?_, HL3.out, HM.and_then M3⟩
          rw [List.take_of_length_le (by rw [HLN.out]; exact Nat.le_refl _)]
          first
            | rfl
            | (rw [IntWalk.i32_left]; rfl)
            | (rw [IntWalk.i64_left]; rfl)
            | (have h8 : le X < 18446744073709551616 := by have := WB.le_lt X; rw [HLN.out] at this; exact this
               rw [IntWalk.u64_in _ (by omega)]; rfl)
    · have hr : rawA bs (.live p) 2 = (.dead p 10, []) := by simp only [rawA]; rw [if_neg (by decide), if_neg (by exact hm)]
      have ht : fixA bs (.live p) 2 = (.dead p 10, 0) := by show ((rawA bs (.live p) 2).1, le (rawA bs (.live p) 2).2) = _; rw [hr]; rfl
      have HT := Lib.hid ht
      clear ht hr
      go_enter Try.func63, Try.ntmps63
      go_wp2_with (go_at_call 51; refine (over_live H.out).mono ?_; rintro e w' ⟨rfl, rfl⟩)
      go_still_tail 6, (by kernel_rfl)
      refine wpStill_step (fun K hK => ?_)
      go_simp
      refine ⟨_, (width_int16 _).mono (fun e w' h => ⟨h.1, h.2.symm⟩), ?_⟩
      refine hK _ ?_
      clear hK K
      repeat still_step
      refine wpStill_nil ?_
      change wpList _ _ _ _ _ w.drew
      have HD : LiveAt w.drew g gb bs p := LiveAt.mod (S := no) H.out ((Mod.refl no w).drew) (fun c => c) (fun _ c => c)
      have HM : Mod (one g) w w.drew := (Mod.refl _ _).drew
      generalize w.drew = w2 at *
      go_wp2_with fail
      refine (next_no _ p HD (by omega) h4).mono ?_
      rintro e w3 ⟨rfl, D3, M3⟩
      have HD3 := Lib.hid D3
      clear D3
      go_wp2_with fail
      go_loop [4, 18] (fun u i => i = .int .i64 0 ∧ u = .int .u64 0) (fun _ _ => 0)
      case atStart => exact ⟨rfl, rfl⟩
      case round =>
        obtain ⟨rfl, rfl⟩ := hrel
        go_wp2_with fail
        go_ret
        rw [HT.out]
        exact ⟨rfl, HD3.out, HM.and_then M3⟩


set_option maxRecDepth 100000 in
set_option maxHeartbeats 1000000 in
theorem take_uint16 {w : World} {g gb : Nat} {bs : List UInt8} {s : St} (h : DecAt w g gb bs s) :
    Calls Try.prog 64 #[.pointer (some ⟨g, 0, none⟩)] w fun e w' =>
      e = .returned (.int .u16 (IntKind.u16.wrap ((fixA bs s 2).2 : Int))) ∧ DecAt w' g gb bs (fixA bs s 2).1 ∧ Mod (one g) w w' := by
  cases s with
  | dead a e =>
    have H := Lib.hid h
    clear h
    go_enter Try.func64, Try.ntmps64
    go_wp2_with (go_at_call 51; refine (over_dead H.out).mono ?_; rintro e w' ⟨rfl, rfl⟩)
    go_ret
    exact ⟨rfl, H.out, Mod.refl _ _⟩
  | live p =>
    have H := Lib.hid h
    obtain ⟨A, c, hb, h1, h2, h3, h4⟩ := h
    have c1 := hb.cell 1
    simp at c1
    clear h3
    have hL := h2
    unfold maxLen at hL
    by_cases hm : 2 ≤ bs.length - p
    · have hr : rawA bs (.live p) 2 = (.live (p + 2), (bs.drop p).take 2) := by simp only [rawA]; rw [if_neg (by decide), if_pos (by exact hm)]; rfl
      have ht : fixA bs (.live p) 2 = (.live (p + 2), le ((bs.drop p).take 2)) := by show ((rawA bs (.live p) 2).1, le (rawA bs (.live p) 2).2) = _; rw [hr]
      have hlen : ((bs.drop p).take 2).length = 2 := by simp; omega
      have HT := Lib.hid ht
      clear ht hr
      generalize hX : (bs.drop p).take 2 = X at *
      have HX := Lib.hid hX
      have HLN := Lib.hid hlen
      clear hX hlen
      go_enter Try.func64, Try.ntmps64
      go_wp2_with (go_at_call 51; refine (over_live H.out).mono ?_; rintro e w' ⟨rfl, rfl⟩)
      go_still_tail 6, (by kernel_rfl)
      refine wpStill_step (fun K hK => ?_)
      go_simp
      refine ⟨_, (width_uint16 _).mono (fun e w' h => ⟨h.1, h.2.symm⟩), ?_⟩
      refine hK _ ?_
      clear hK K
      repeat still_step
      refine wpStill_nil ?_
      change wpList _ _ _ _ _ w.drew
      have HD : LiveAt w.drew g gb bs p := LiveAt.mod (S := no) H.out ((Mod.refl no w).drew) (fun c => c) (fun _ c => c)
      have HM : Mod (one g) w w.drew := (Mod.refl _ _).drew
      generalize w.drew = w2 at *
      go_wp2_with fail
      refine (next_ok 2 _ HD hm).mono ?_
      rintro e w3 ⟨A3, k3, rfl, L3, R3, M3⟩
      rw [HX.out] at R3
      have hXne : X ≠ [] := by intro e; have := HLN.out; rw [e] at this; simp at this
      obtain ⟨g3, o3, cs3, rfl, B3, C3⟩ := R3 hXne
      have HC := Lib.hid C3
      have HL3 := Lib.hid L3
      clear C3 L3 hXne R3
      go_wp2_with fail
      go_loop [4, 18] (fun u i => ∃ j : Nat, j ≤ 2 ∧ i = .int .i64 (j : Int) ∧ u = .int .u64 (le (X.take j) : Int)) (fun _ i => 2 - (intOf i).toNat)
      case atStart => exact ⟨0, by omega, rfl, rfl⟩
      case round =>
        obtain ⟨j, hj, rfl, rfl⟩ := hrel
        by_cases hlt : j < 2
        · have hjX : j < X.length := by rw [HLN.out]; exact hlt
          have cj : w3.cell? ⟨g3, o3 + j, none⟩ = some (.int .u8 (X[j].toNat : Int)) := by rw [B3.cell, HC.out j hjX, bvs_get X j hjX]
          have hbb := byte_lt X[j]
          obtain ⟨hb0, hb1⟩ := hbb
          have F := WB.or8_step (le (X.take j)) j X[j].toNat (by have := WB.le_lt (X.take j); rwa [List.length_take, Nat.min_eq_left (by omega)] at this) X[j].toNat_lt (by omega)
          rw [← WB.le_take X j hjX] at F
          generalize X[j].toNat = b at *
          go_wp2_with fail
          go_round
          case rel => exact ⟨j + 1, by omega, by go_num, rfl⟩
          case measure => simp [intOf]; omega
        · obtain rfl : j = 2 := by omega
          go_wp2_with fail
          go_ret
          rw [HT.out]
          refine ⟨?_, HL3.out, HM.and_then M3⟩
          rw [List.take_of_length_le (by rw [HLN.out]; exact Nat.le_refl _)]
          first
            | rfl
            | (rw [IntWalk.i32_left]; rfl)
            | (rw [IntWalk.i64_left]; rfl)
            | (have h8 : le X < 18446744073709551616 := by have := WB.le_lt X; rw [HLN.out] at this; exact this
               rw [IntWalk.u64_in _ (by omega)]; rfl)
    · have hr : rawA bs (.live p) 2 = (.dead p 10, []) := by simp only [rawA]; rw [if_neg (by decide), if_neg (by exact hm)]
      have ht : fixA bs (.live p) 2 = (.dead p 10, 0) := by show ((rawA bs (.live p) 2).1, le (rawA bs (.live p) 2).2) = _; rw [hr]; rfl
      have HT := Lib.hid ht
      clear ht hr
      go_enter Try.func64, Try.ntmps64
      go_wp2_with (go_at_call 51; refine (over_live H.out).mono ?_; rintro e w' ⟨rfl, rfl⟩)
      go_still_tail 6, (by kernel_rfl)
      refine wpStill_step (fun K hK => ?_)
      go_simp
      refine ⟨_, (width_uint16 _).mono (fun e w' h => ⟨h.1, h.2.symm⟩), ?_⟩
      refine hK _ ?_
      clear hK K
      repeat still_step
      refine wpStill_nil ?_
      change wpList _ _ _ _ _ w.drew
      have HD : LiveAt w.drew g gb bs p := LiveAt.mod (S := no) H.out ((Mod.refl no w).drew) (fun c => c) (fun _ c => c)
      have HM : Mod (one g) w w.drew := (Mod.refl _ _).drew
      generalize w.drew = w2 at *
      go_wp2_with fail
      refine (next_no _ p HD (by omega) h4).mono ?_
      rintro e w3 ⟨rfl, D3, M3⟩
      have HD3 := Lib.hid D3
      clear D3
      go_wp2_with fail
      go_loop [4, 18] (fun u i => i = .int .i64 0 ∧ u = .int .u64 0) (fun _ _ => 0)
      case atStart => exact ⟨rfl, rfl⟩
      case round =>
        obtain ⟨rfl, rfl⟩ := hrel
        go_wp2_with fail
        go_ret
        rw [HT.out]
        exact ⟨rfl, HD3.out, HM.and_then M3⟩


set_option maxRecDepth 100000 in
set_option maxHeartbeats 1000000 in
theorem take_int32 {w : World} {g gb : Nat} {bs : List UInt8} {s : St} (h : DecAt w g gb bs s) :
    Calls Try.prog 65 #[.pointer (some ⟨g, 0, none⟩)] w fun e w' =>
      e = .returned (.int .i32 (IntKind.i32.wrap ((fixA bs s 4).2 : Int))) ∧ DecAt w' g gb bs (fixA bs s 4).1 ∧ Mod (one g) w w' := by
  cases s with
  | dead a e =>
    have H := Lib.hid h
    clear h
    go_enter Try.func65, Try.ntmps65
    go_wp2_with (go_at_call 51; refine (over_dead H.out).mono ?_; rintro e w' ⟨rfl, rfl⟩)
    go_ret
    exact ⟨rfl, H.out, Mod.refl _ _⟩
  | live p =>
    have H := Lib.hid h
    obtain ⟨A, c, hb, h1, h2, h3, h4⟩ := h
    have c1 := hb.cell 1
    simp at c1
    clear h3
    have hL := h2
    unfold maxLen at hL
    by_cases hm : 4 ≤ bs.length - p
    · have hr : rawA bs (.live p) 4 = (.live (p + 4), (bs.drop p).take 4) := by simp only [rawA]; rw [if_neg (by decide), if_pos (by exact hm)]; rfl
      have ht : fixA bs (.live p) 4 = (.live (p + 4), le ((bs.drop p).take 4)) := by show ((rawA bs (.live p) 4).1, le (rawA bs (.live p) 4).2) = _; rw [hr]
      have hlen : ((bs.drop p).take 4).length = 4 := by simp; omega
      have HT := Lib.hid ht
      clear ht hr
      generalize hX : (bs.drop p).take 4 = X at *
      have HX := Lib.hid hX
      have HLN := Lib.hid hlen
      clear hX hlen
      go_enter Try.func65, Try.ntmps65
      go_wp2_with (go_at_call 51; refine (over_live H.out).mono ?_; rintro e w' ⟨rfl, rfl⟩)
      go_still_tail 6, (by kernel_rfl)
      refine wpStill_step (fun K hK => ?_)
      go_simp
      refine ⟨_, (width_int32 _).mono (fun e w' h => ⟨h.1, h.2.symm⟩), ?_⟩
      refine hK _ ?_
      clear hK K
      repeat still_step
      refine wpStill_nil ?_
      change wpList _ _ _ _ _ w.drew
      have HD : LiveAt w.drew g gb bs p := LiveAt.mod (S := no) H.out ((Mod.refl no w).drew) (fun c => c) (fun _ c => c)
      have HM : Mod (one g) w w.drew := (Mod.refl _ _).drew
      generalize w.drew = w2 at *
      go_wp2_with fail
      refine (next_ok 4 _ HD hm).mono ?_
      rintro e w3 ⟨A3, k3, rfl, L3, R3, M3⟩
      rw [HX.out] at R3
      have hXne : X ≠ [] := by intro e; have := HLN.out; rw [e] at this; simp at this
      obtain ⟨g3, o3, cs3, rfl, B3, C3⟩ := R3 hXne
      have HC := Lib.hid C3
      have HL3 := Lib.hid L3
      clear C3 L3 hXne R3
      go_wp2_with fail
      go_loop [4, 18] (fun u i => ∃ j : Nat, j ≤ 4 ∧ i = .int .i64 (j : Int) ∧ u = .int .u64 (le (X.take j) : Int)) (fun _ i => 4 - (intOf i).toNat)
      case atStart => exact ⟨0, by omega, rfl, rfl⟩
      case round =>
        obtain ⟨j, hj, rfl, rfl⟩ := hrel
        by_cases hlt : j < 4
        · have hjX : j < X.length := by rw [HLN.out]; exact hlt
          have cj : w3.cell? ⟨g3, o3 + j, none⟩ = some (.int .u8 (X[j].toNat : Int)) := by rw [B3.cell, HC.out j hjX, bvs_get X j hjX]
          have hbb := byte_lt X[j]
          obtain ⟨hb0, hb1⟩ := hbb
          have F := WB.or8_step (le (X.take j)) j X[j].toNat (by have := WB.le_lt (X.take j); rwa [List.length_take, Nat.min_eq_left (by omega)] at this) X[j].toNat_lt (by omega)
          rw [← WB.le_take X j hjX] at F
          generalize X[j].toNat = b at *
          go_wp2_with fail
          go_round
          case rel => exact ⟨j + 1, by omega, by go_num, rfl⟩
          case measure => simp [intOf]; omega
        · obtain rfl : j = 4 := by omega
          go_wp2_with fail
          go_ret
          rw [HT.out]
          refine ⟨?_, HL3.out, HM.and_then M3⟩
          rw [List.take_of_length_le (by rw [HLN.out]; exact Nat.le_refl _)]
          first
            | rfl
            | (rw [IntWalk.i32_left]; rfl)
            | (rw [IntWalk.i64_left]; rfl)
            | (have h8 : le X < 18446744073709551616 := by have := WB.le_lt X; rw [HLN.out] at this; exact this
               rw [IntWalk.u64_in _ (by omega)]; rfl)
    · have hr : rawA bs (.live p) 4 = (.dead p 10, []) := by simp only [rawA]; rw [if_neg (by decide), if_neg (by exact hm)]
      have ht : fixA bs (.live p) 4 = (.dead p 10, 0) := by show ((rawA bs (.live p) 4).1, le (rawA bs (.live p) 4).2) = _; rw [hr]; rfl
      have HT := Lib.hid ht
      clear ht hr
      go_enter Try.func65, Try.ntmps65
      go_wp2_with (go_at_call 51; refine (over_live H.out).mono ?_; rintro e w' ⟨rfl, rfl⟩)
      go_still_tail 6, (by kernel_rfl)
      refine wpStill_step (fun K hK => ?_)
      go_simp
      refine ⟨_, (width_int32 _).mono (fun e w' h => ⟨h.1, h.2.symm⟩), ?_⟩
      refine hK _ ?_
      clear hK K
      repeat still_step
      refine wpStill_nil ?_
      change wpList _ _ _ _ _ w.drew
      have HD : LiveAt w.drew g gb bs p := LiveAt.mod (S := no) H.out ((Mod.refl no w).drew) (fun c => c) (fun _ c => c)
      have HM : Mod (one g) w w.drew := (Mod.refl _ _).drew
      generalize w.drew = w2 at *
      go_wp2_with fail
      refine (next_no _ p HD (by omega) h4).mono ?_
      rintro e w3 ⟨rfl, D3, M3⟩
      have HD3 := Lib.hid D3
      clear D3
      go_wp2_with fail
      go_loop [4, 18] (fun u i => i = .int .i64 0 ∧ u = .int .u64 0) (fun _ _ => 0)
      case atStart => exact ⟨rfl, rfl⟩
      case round =>
        obtain ⟨rfl, rfl⟩ := hrel
        go_wp2_with fail
        go_ret
        rw [HT.out]
        exact ⟨rfl, HD3.out, HM.and_then M3⟩


set_option maxRecDepth 100000 in
set_option maxHeartbeats 1000000 in
theorem take_uint32 {w : World} {g gb : Nat} {bs : List UInt8} {s : St} (h : DecAt w g gb bs s) :
    Calls Try.prog 66 #[.pointer (some ⟨g, 0, none⟩)] w fun e w' =>
      e = .returned (.int .u32 (IntKind.u32.wrap ((fixA bs s 4).2 : Int))) ∧ DecAt w' g gb bs (fixA bs s 4).1 ∧ Mod (one g) w w' := by
  cases s with
  | dead a e =>
    have H := Lib.hid h
    clear h
    go_enter Try.func66, Try.ntmps66
    go_wp2_with (go_at_call 51; refine (over_dead H.out).mono ?_; rintro e w' ⟨rfl, rfl⟩)
    go_ret
    exact ⟨rfl, H.out, Mod.refl _ _⟩
  | live p =>
    have H := Lib.hid h
    obtain ⟨A, c, hb, h1, h2, h3, h4⟩ := h
    have c1 := hb.cell 1
    simp at c1
    clear h3
    have hL := h2
    unfold maxLen at hL
    by_cases hm : 4 ≤ bs.length - p
    · have hr : rawA bs (.live p) 4 = (.live (p + 4), (bs.drop p).take 4) := by simp only [rawA]; rw [if_neg (by decide), if_pos (by exact hm)]; rfl
      have ht : fixA bs (.live p) 4 = (.live (p + 4), le ((bs.drop p).take 4)) := by show ((rawA bs (.live p) 4).1, le (rawA bs (.live p) 4).2) = _; rw [hr]
      have hlen : ((bs.drop p).take 4).length = 4 := by simp; omega
      have HT := Lib.hid ht
      clear ht hr
      generalize hX : (bs.drop p).take 4 = X at *
      have HX := Lib.hid hX
      have HLN := Lib.hid hlen
      clear hX hlen
      go_enter Try.func66, Try.ntmps66
      go_wp2_with (go_at_call 51; refine (over_live H.out).mono ?_; rintro e w' ⟨rfl, rfl⟩)
      go_still_tail 6, (by kernel_rfl)
      refine wpStill_step (fun K hK => ?_)
      go_simp
      refine ⟨_, (width_uint32 _).mono (fun e w' h => ⟨h.1, h.2.symm⟩), ?_⟩
      refine hK _ ?_
      clear hK K
      repeat still_step
      refine wpStill_nil ?_
      change wpList _ _ _ _ _ w.drew
      have HD : LiveAt w.drew g gb bs p := LiveAt.mod (S := no) H.out ((Mod.refl no w).drew) (fun c => c) (fun _ c => c)
      have HM : Mod (one g) w w.drew := (Mod.refl _ _).drew
      generalize w.drew = w2 at *
      go_wp2_with fail
      refine (next_ok 4 _ HD hm).mono ?_
      rintro e w3 ⟨A3, k3, rfl, L3, R3, M3⟩
      rw [HX.out] at R3
      have hXne : X ≠ [] := by intro e; have := HLN.out; rw [e] at this; simp at this
      obtain ⟨g3, o3, cs3, rfl, B3, C3⟩ := R3 hXne
      have HC := Lib.hid C3
      have HL3 := Lib.hid L3
      clear C3 L3 hXne R3
      go_wp2_with fail
      go_loop [4, 18] (fun u i => ∃ j : Nat, j ≤ 4 ∧ i = .int .i64 (j : Int) ∧ u = .int .u64 (le (X.take j) : Int)) (fun _ i => 4 - (intOf i).toNat)
      case atStart => exact ⟨0, by omega, rfl, rfl⟩
      case round =>
        obtain ⟨j, hj, rfl, rfl⟩ := hrel
        by_cases hlt : j < 4
        · have hjX : j < X.length := by rw [HLN.out]; exact hlt
          have cj : w3.cell? ⟨g3, o3 + j, none⟩ = some (.int .u8 (X[j].toNat : Int)) := by rw [B3.cell, HC.out j hjX, bvs_get X j hjX]
          have hbb := byte_lt X[j]
          obtain ⟨hb0, hb1⟩ := hbb
          have F := WB.or8_step (le (X.take j)) j X[j].toNat (by have := WB.le_lt (X.take j); rwa [List.length_take, Nat.min_eq_left (by omega)] at this) X[j].toNat_lt (by omega)
          rw [← WB.le_take X j hjX] at F
          generalize X[j].toNat = b at *
          go_wp2_with fail
          go_round
          case rel => exact ⟨j + 1, by omega, by go_num, rfl⟩
          case measure => simp [intOf]; omega
        · obtain rfl : j = 4 := by omega
          go_wp2_with fail
          go_ret
          rw [HT.out]
          refine ⟨?_, HL3.out, HM.and_then M3⟩
          rw [List.take_of_length_le (by rw [HLN.out]; exact Nat.le_refl _)]
          first
            | rfl
            | (rw [IntWalk.i32_left]; rfl)
            | (rw [IntWalk.i64_left]; rfl)
            | (have h8 : le X < 18446744073709551616 := by have := WB.le_lt X; rw [HLN.out] at this; exact this
               rw [IntWalk.u64_in _ (by omega)]; rfl)
    · have hr : rawA bs (.live p) 4 = (.dead p 10, []) := by simp only [rawA]; rw [if_neg (by decide), if_neg (by exact hm)]
      have ht : fixA bs (.live p) 4 = (.dead p 10, 0) := by show ((rawA bs (.live p) 4).1, le (rawA bs (.live p) 4).2) = _; rw [hr]; rfl
      have HT := Lib.hid ht
      clear ht hr
      go_enter Try.func66, Try.ntmps66
      go_wp2_with (go_at_call 51; refine (over_live H.out).mono ?_; rintro e w' ⟨rfl, rfl⟩)
      go_still_tail 6, (by kernel_rfl)
      refine wpStill_step (fun K hK => ?_)
      go_simp
      refine ⟨_, (width_uint32 _).mono (fun e w' h => ⟨h.1, h.2.symm⟩), ?_⟩
      refine hK _ ?_
      clear hK K
      repeat still_step
      refine wpStill_nil ?_
      change wpList _ _ _ _ _ w.drew
      have HD : LiveAt w.drew g gb bs p := LiveAt.mod (S := no) H.out ((Mod.refl no w).drew) (fun c => c) (fun _ c => c)
      have HM : Mod (one g) w w.drew := (Mod.refl _ _).drew
      generalize w.drew = w2 at *
      go_wp2_with fail
      refine (next_no _ p HD (by omega) h4).mono ?_
      rintro e w3 ⟨rfl, D3, M3⟩
      have HD3 := Lib.hid D3
      clear D3
      go_wp2_with fail
      go_loop [4, 18] (fun u i => i = .int .i64 0 ∧ u = .int .u64 0) (fun _ _ => 0)
      case atStart => exact ⟨rfl, rfl⟩
      case round =>
        obtain ⟨rfl, rfl⟩ := hrel
        go_wp2_with fail
        go_ret
        rw [HT.out]
        exact ⟨rfl, HD3.out, HM.and_then M3⟩


set_option maxRecDepth 100000 in
set_option maxHeartbeats 1000000 in
theorem take_int64 {w : World} {g gb : Nat} {bs : List UInt8} {s : St} (h : DecAt w g gb bs s) :
    Calls Try.prog 67 #[.pointer (some ⟨g, 0, none⟩)] w fun e w' =>
      e = .returned (.int .i64 (IntKind.i64.wrap ((fixA bs s 8).2 : Int))) ∧ DecAt w' g gb bs (fixA bs s 8).1 ∧ Mod (one g) w w' := by
  cases s with
  | dead a e =>
    have H := Lib.hid h
    clear h
    go_enter Try.func67, Try.ntmps67
    go_wp2_with (go_at_call 51; refine (over_dead H.out).mono ?_; rintro e w' ⟨rfl, rfl⟩)
    go_ret
    exact ⟨rfl, H.out, Mod.refl _ _⟩
  | live p =>
    have H := Lib.hid h
    obtain ⟨A, c, hb, h1, h2, h3, h4⟩ := h
    have c1 := hb.cell 1
    simp at c1
    clear h3
    have hL := h2
    unfold maxLen at hL
    by_cases hm : 8 ≤ bs.length - p
    · have hr : rawA bs (.live p) 8 = (.live (p + 8), (bs.drop p).take 8) := by simp only [rawA]; rw [if_neg (by decide), if_pos (by exact hm)]; rfl
      have ht : fixA bs (.live p) 8 = (.live (p + 8), le ((bs.drop p).take 8)) := by show ((rawA bs (.live p) 8).1, le (rawA bs (.live p) 8).2) = _; rw [hr]
      have hlen : ((bs.drop p).take 8).length = 8 := by simp; omega
      have HT := Lib.hid ht
      clear ht hr
      generalize hX : (bs.drop p).take 8 = X at *
      have HX := Lib.hid hX
      have HLN := Lib.hid hlen
      clear hX hlen
      go_enter Try.func67, Try.ntmps67
      go_wp2_with (go_at_call 51; refine (over_live H.out).mono ?_; rintro e w' ⟨rfl, rfl⟩)
      go_still_tail 6, (by kernel_rfl)
      refine wpStill_step (fun K hK => ?_)
      go_simp
      refine ⟨_, (width_int64 _).mono (fun e w' h => ⟨h.1, h.2.symm⟩), ?_⟩
      refine hK _ ?_
      clear hK K
      repeat still_step
      refine wpStill_nil ?_
      change wpList _ _ _ _ _ w.drew
      have HD : LiveAt w.drew g gb bs p := LiveAt.mod (S := no) H.out ((Mod.refl no w).drew) (fun c => c) (fun _ c => c)
      have HM : Mod (one g) w w.drew := (Mod.refl _ _).drew
      generalize w.drew = w2 at *
      go_wp2_with fail
      refine (next_ok 8 _ HD hm).mono ?_
      rintro e w3 ⟨A3, k3, rfl, L3, R3, M3⟩
      rw [HX.out] at R3
      have hXne : X ≠ [] := by intro e; have := HLN.out; rw [e] at this; simp at this
      obtain ⟨g3, o3, cs3, rfl, B3, C3⟩ := R3 hXne
      have HC := Lib.hid C3
      have HL3 := Lib.hid L3
      clear C3 L3 hXne R3
      go_wp2_with fail
      go_loop [4, 18] (fun u i => ∃ j : Nat, j ≤ 8 ∧ i = .int .i64 (j : Int) ∧ u = .int .u64 (le (X.take j) : Int)) (fun _ i => 8 - (intOf i).toNat)
      case atStart => exact ⟨0, by omega, rfl, rfl⟩
      case round =>
        obtain ⟨j, hj, rfl, rfl⟩ := hrel
        by_cases hlt : j < 8
        · have hjX : j < X.length := by rw [HLN.out]; exact hlt
          have cj : w3.cell? ⟨g3, o3 + j, none⟩ = some (.int .u8 (X[j].toNat : Int)) := by rw [B3.cell, HC.out j hjX, bvs_get X j hjX]
          have hbb := byte_lt X[j]
          obtain ⟨hb0, hb1⟩ := hbb
          have F := WB.or8_step (le (X.take j)) j X[j].toNat (by have := WB.le_lt (X.take j); rwa [List.length_take, Nat.min_eq_left (by omega)] at this) X[j].toNat_lt (by omega)
          rw [← WB.le_take X j hjX] at F
          generalize X[j].toNat = b at *
          go_wp2_with fail
          go_round
          case rel => exact ⟨j + 1, by omega, by go_num, rfl⟩
          case measure => simp [intOf]; omega
        · obtain rfl : j = 8 := by omega
          go_wp2_with fail
          go_ret
          rw [HT.out]
          refine ⟨?_, HL3.out, HM.and_then M3⟩
          rw [List.take_of_length_le (by rw [HLN.out]; exact Nat.le_refl _)]
          first
            | rfl
            | (rw [IntWalk.i32_left]; rfl)
            | (rw [IntWalk.i64_left]; rfl)
            | (have h8 : le X < 18446744073709551616 := by have := WB.le_lt X; rw [HLN.out] at this; exact this
               rw [IntWalk.u64_in _ (by omega)]; rfl)
    · have hr : rawA bs (.live p) 8 = (.dead p 10, []) := by simp only [rawA]; rw [if_neg (by decide), if_neg (by exact hm)]
      have ht : fixA bs (.live p) 8 = (.dead p 10, 0) := by show ((rawA bs (.live p) 8).1, le (rawA bs (.live p) 8).2) = _; rw [hr]; rfl
      have HT := Lib.hid ht
      clear ht hr
      go_enter Try.func67, Try.ntmps67
      go_wp2_with (go_at_call 51; refine (over_live H.out).mono ?_; rintro e w' ⟨rfl, rfl⟩)
      go_still_tail 6, (by kernel_rfl)
      refine wpStill_step (fun K hK => ?_)
      go_simp
      refine ⟨_, (width_int64 _).mono (fun e w' h => ⟨h.1, h.2.symm⟩), ?_⟩
      refine hK _ ?_
      clear hK K
      repeat still_step
      refine wpStill_nil ?_
      change wpList _ _ _ _ _ w.drew
      have HD : LiveAt w.drew g gb bs p := LiveAt.mod (S := no) H.out ((Mod.refl no w).drew) (fun c => c) (fun _ c => c)
      have HM : Mod (one g) w w.drew := (Mod.refl _ _).drew
      generalize w.drew = w2 at *
      go_wp2_with fail
      refine (next_no _ p HD (by omega) h4).mono ?_
      rintro e w3 ⟨rfl, D3, M3⟩
      have HD3 := Lib.hid D3
      clear D3
      go_wp2_with fail
      go_loop [4, 18] (fun u i => i = .int .i64 0 ∧ u = .int .u64 0) (fun _ _ => 0)
      case atStart => exact ⟨rfl, rfl⟩
      case round =>
        obtain ⟨rfl, rfl⟩ := hrel
        go_wp2_with fail
        go_ret
        rw [HT.out]
        exact ⟨rfl, HD3.out, HM.and_then M3⟩


set_option maxRecDepth 100000 in
set_option maxHeartbeats 1000000 in
theorem take_uint64 {w : World} {g gb : Nat} {bs : List UInt8} {s : St} (h : DecAt w g gb bs s) :
    Calls Try.prog 68 #[.pointer (some ⟨g, 0, none⟩)] w fun e w' =>
      e = .returned (.int .u64 (IntKind.u64.wrap ((fixA bs s 8).2 : Int))) ∧ DecAt w' g gb bs (fixA bs s 8).1 ∧ Mod (one g) w w' := by
  cases s with
  | dead a e =>
    have H := Lib.hid h
    clear h
    go_enter Try.func68, Try.ntmps68
    go_wp2_with (go_at_call 51; refine (over_dead H.out).mono ?_; rintro e w' ⟨rfl, rfl⟩)
    go_ret
    exact ⟨rfl, H.out, Mod.refl _ _⟩
  | live p =>
    have H := Lib.hid h
    obtain ⟨A, c, hb, h1, h2, h3, h4⟩ := h
    have c1 := hb.cell 1
    simp at c1
    clear h3
    have hL := h2
    unfold maxLen at hL
    by_cases hm : 8 ≤ bs.length - p
    · have hr : rawA bs (.live p) 8 = (.live (p + 8), (bs.drop p).take 8) := by simp only [rawA]; rw [if_neg (by decide), if_pos (by exact hm)]; rfl
      have ht : fixA bs (.live p) 8 = (.live (p + 8), le ((bs.drop p).take 8)) := by show ((rawA bs (.live p) 8).1, le (rawA bs (.live p) 8).2) = _; rw [hr]
      have hlen : ((bs.drop p).take 8).length = 8 := by simp; omega
      have HT := Lib.hid ht
      clear ht hr
      generalize hX : (bs.drop p).take 8 = X at *
      have HX := Lib.hid hX
      have HLN := Lib.hid hlen
      clear hX hlen
      go_enter Try.func68, Try.ntmps68
      go_wp2_with (go_at_call 51; refine (over_live H.out).mono ?_; rintro e w' ⟨rfl, rfl⟩)
      go_still_tail 6, (by kernel_rfl)
      refine wpStill_step (fun K hK => ?_)
      go_simp
      refine ⟨_, (width_uint64 _).mono (fun e w' h => ⟨h.1, h.2.symm⟩), ?_⟩
      refine hK _ ?_
      clear hK K
      repeat still_step
      refine wpStill_nil ?_
      change wpList _ _ _ _ _ w.drew
      have HD : LiveAt w.drew g gb bs p := LiveAt.mod (S := no) H.out ((Mod.refl no w).drew) (fun c => c) (fun _ c => c)
      have HM : Mod (one g) w w.drew := (Mod.refl _ _).drew
      generalize w.drew = w2 at *
      go_wp2_with fail
      refine (next_ok 8 _ HD hm).mono ?_
      rintro e w3 ⟨A3, k3, rfl, L3, R3, M3⟩
      rw [HX.out] at R3
      have hXne : X ≠ [] := by intro e; have := HLN.out; rw [e] at this; simp at this
      obtain ⟨g3, o3, cs3, rfl, B3, C3⟩ := R3 hXne
      have HC := Lib.hid C3
      have HL3 := Lib.hid L3
      clear C3 L3 hXne R3
      go_wp2_with fail
      go_loop [4, 18] (fun u i => ∃ j : Nat, j ≤ 8 ∧ i = .int .i64 (j : Int) ∧ u = .int .u64 (le (X.take j) : Int)) (fun _ i => 8 - (intOf i).toNat)
      case atStart => exact ⟨0, by omega, rfl, rfl⟩
      case round =>
        obtain ⟨j, hj, rfl, rfl⟩ := hrel
        by_cases hlt : j < 8
        · have hjX : j < X.length := by rw [HLN.out]; exact hlt
          have cj : w3.cell? ⟨g3, o3 + j, none⟩ = some (.int .u8 (X[j].toNat : Int)) := by rw [B3.cell, HC.out j hjX, bvs_get X j hjX]
          have hbb := byte_lt X[j]
          obtain ⟨hb0, hb1⟩ := hbb
          have F := WB.or8_step (le (X.take j)) j X[j].toNat (by have := WB.le_lt (X.take j); rwa [List.length_take, Nat.min_eq_left (by omega)] at this) X[j].toNat_lt (by omega)
          rw [← WB.le_take X j hjX] at F
          generalize X[j].toNat = b at *
          go_wp2_with fail
          go_round
          case rel => exact ⟨j + 1, by omega, by go_num, rfl⟩
          case measure => simp [intOf]; omega
        · obtain rfl : j = 8 := by omega
          go_wp2_with fail
          go_ret
          rw [HT.out]
          refine ⟨?_, HL3.out, HM.and_then M3⟩
          rw [List.take_of_length_le (by rw [HLN.out]; exact Nat.le_refl _)]
          first
            | rfl
            | (rw [IntWalk.i32_left]; rfl)
            | (rw [IntWalk.i64_left]; rfl)
            | (have h8 : le X < 18446744073709551616 := by have := WB.le_lt X; rw [HLN.out] at this; exact this
               rw [IntWalk.u64_in _ (by omega)]; rfl)
    · have hr : rawA bs (.live p) 8 = (.dead p 10, []) := by simp only [rawA]; rw [if_neg (by decide), if_neg (by exact hm)]
      have ht : fixA bs (.live p) 8 = (.dead p 10, 0) := by show ((rawA bs (.live p) 8).1, le (rawA bs (.live p) 8).2) = _; rw [hr]; rfl
      have HT := Lib.hid ht
      clear ht hr
      go_enter Try.func68, Try.ntmps68
      go_wp2_with (go_at_call 51; refine (over_live H.out).mono ?_; rintro e w' ⟨rfl, rfl⟩)
      go_still_tail 6, (by kernel_rfl)
      refine wpStill_step (fun K hK => ?_)
      go_simp
      refine ⟨_, (width_uint64 _).mono (fun e w' h => ⟨h.1, h.2.symm⟩), ?_⟩
      refine hK _ ?_
      clear hK K
      repeat still_step
      refine wpStill_nil ?_
      change wpList _ _ _ _ _ w.drew
      have HD : LiveAt w.drew g gb bs p := LiveAt.mod (S := no) H.out ((Mod.refl no w).drew) (fun c => c) (fun _ c => c)
      have HM : Mod (one g) w w.drew := (Mod.refl _ _).drew
      generalize w.drew = w2 at *
      go_wp2_with fail
      refine (next_no _ p HD (by omega) h4).mono ?_
      rintro e w3 ⟨rfl, D3, M3⟩
      have HD3 := Lib.hid D3
      clear D3
      go_wp2_with fail
      go_loop [4, 18] (fun u i => i = .int .i64 0 ∧ u = .int .u64 0) (fun _ _ => 0)
      case atStart => exact ⟨rfl, rfl⟩
      case round =>
        obtain ⟨rfl, rfl⟩ := hrel
        go_wp2_with fail
        go_ret
        rw [HT.out]
        exact ⟨rfl, HD3.out, HM.and_then M3⟩


end Go.Proofs.Ytpfkcejndjnbhaa.WD
