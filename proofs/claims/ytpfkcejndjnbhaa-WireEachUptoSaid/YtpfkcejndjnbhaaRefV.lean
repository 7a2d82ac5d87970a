/- The document's taker: a number. -/
import Derived.Test.YtpfkcejndjnbhaaRefD
namespace Go.Proofs.Ytpfkcejndjnbhaa.RD
open Go.RowKit Mem WM
open Go.Proofs.Ytpfkcejndjnbhaa.WD (RdT RdB u8_info conv_string own_lower own_mod conv_range fixA_lt raw_len key_size mod_sets)
set_option linter.unusedVariables false
set_option linter.unusedSimpArgs false

theorem rstop_v {w : World} {g : Nat} {A : Option Addr} {bs : List UInt8} {c : Nat} {p : Int} (a e : Nat) {u v : Int} (h : Blk w g 52 #[.slice A bs.length c, .int .i64 p, .bool false, .int .i64 0, .int .i64 0]) (ha : a ≤ bs.length) (hu : u = (a : Int)) (hv : v = (e : Int)) :
    Calls Try.prog 54 #[.pointer (some ⟨g, 0, none⟩), .int .i64 u, .int .i64 v] w fun r w' => r = .returned (.tuple #[]) ∧ RDead w' g bs a e ∧ Mod (one g) w w' := by
  subst hu hv; exact rstop_any a e h ha

theorem rlive_put {w : World} {g gb : Nat} {bs : List UInt8} {A : Option Addr} {c : Nat} {p : Int} {p' : Nat} (hb : Blk w g 52 #[.slice A bs.length c, .int .i64 p, .bool false, .int .i64 0, .int .i64 0]) (h1 : bs.length ≤ c) (h2 : c ≤ maxLen)
    (h3 : RdB w gb A bs) (hp : p' ≤ bs.length) (n : Nat) {v : Int} (hv : v = (p' : Int)) :
    RLive ((w.drewN n).setCell ⟨g, 1, none⟩ (.int .i64 v)) g gb bs p' ∧ Mod (one g) w ((w.drewN n).setCell ⟨g, 1, none⟩ (.int .i64 v)) := by
  subst hv
  have M : Mod (one g) w ((w.drewN n).setCell ⟨g, 1, none⟩ (.int .i64 (p' : Int))) := ((Mod.refl (one g) w).drewN n).set (p := ⟨g, 1, none⟩) (fun _ => rfl) _
  exact ⟨⟨A, c, by simpa using (hb.drewN n).put 1 (.int .i64 (p' : Int)), h1, h2, h3.mod_other hb (by decide) M, hp⟩, M⟩

set_option maxRecDepth 100000 in
set_option maxHeartbeats 8000000 in
theorem rvar_live {w : World} {g gb : Nat} {bs : List UInt8} {p : Nat} (most : Nat) (h : RLive w g gb bs p) (hm2 : most < 18446744073709551616) :
    Calls Try.prog 20 #[.pointer (some ⟨g, 0, none⟩), .int .u64 (most : Int)] w fun e w' => ∃ s n, varA bs (.live p) most = (s, n) ∧ e = .returned (.int .u64 (n : Int)) ∧ RAt w' g gb bs s ∧ Mod (one g) w w' := by
  obtain ⟨A, c, hb, h1, h2, h3, h4⟩ := h
  have HL := Lib.hid (show RLive w g gb bs p from ⟨A, c, hb, h1, h2, h3, h4⟩)
  have HM := Lib.hid hm2
  clear hm2
  have c2 := hb.cell 2
  simp at c2
  go_enter Try.func20, Try.ntmps20
  go_wp2_with fail
  have hL := h2
  unfold maxLen at hL
  clear c2
  go_loopw [5, 6, 7] (fun v sc k wr => ∃ (i : Nat) (n : Nat) (q : Nat) (m : Nat), i ≤ 9 ∧ n < 128 ^ i ∧ p + i ≤ bs.length ∧ k = .int .i64 (i : Int) ∧ v = .int .u64 (n : Int) ∧ m = 128 ^ i ∧ sc = .int .u64 (m : Int) ∧ wr = w.drewN q ∧ varGo bs p most (10 - i) i n = varGo bs p most 10 0 0) (fun _ _ k _ => 10 - (intOf k).toNat)
  case atStart => exact ⟨0, 0, 0, 1, by omega, by simp, by omega, rfl, rfl, rfl, rfl, rfl, rfl⟩
  case round =>
    obtain ⟨i, n, q, m, hi, hn, hpi, rfl, rfl, hmm, rfl, rfl, hgo⟩ := hrel
    have HG := Lib.hid hgo
    clear hgo
    have HA := Lib.hid h3
    clear h3
    have c0 := (hb.drewN q).cell 0
    have c1 := (hb.drewN q).cell 1
    simp at c0 c1
    have e1 : IntKind.i64.wrap ((p : Int) + (i : Int)) = (p : Int) + (i : Int) := IntWalk.i64_in _ (by omega)
    cases hbi : bs[p + i]? with
    | none =>
      have hend : p + i = bs.length := by have := List.getElem?_eq_none_iff.1 hbi; omega
      have b1 : (bs.length : Int) ≤ (p : Int) + (i : Int) := by omega
      have HE := Lib.hid hend
      have HB := Lib.hid hbi
      have HMM := Lib.hid hmm
      clear hend hbi hmm
      go_wp2_with fail
      go_quiet (fail)
      go_wp2_with fail
      refine (rstop_any p 10 (hb.drewN _) h4).mono ?_
      rintro e w1 ⟨rfl, D, M⟩
      go_wp2_with fail
      go_ret
      refine ⟨.dead p 10, 0, ?_, rfl, D, ((Mod.refl (one g) w).drewN _).and_then M⟩
      rw [varA, ← HG.out, show 10 - i = (9 - i) + 1 by omega, varGo, HB.out]
    | some b =>
      have hlt : p + i < bs.length := (List.getElem?_eq_some_iff.1 hbi).1
      have b1 : decide ((bs.length : Int) ≤ (p : Int) + (i : Int)) = false := by simp; omega
      have hne : bs ≠ [] := by rintro rfl; simp at hlt
      obtain ⟨o, cs, rfl, hbb, hcs⟩ := HA.out hne
      have cb : w.cell? ⟨gb, o + (p + i), none⟩ = some (.int .u8 (b.toNat : Int)) := by
        rw [hbb.cell, hcs _ hlt, bvs_get', hbi]; rfl
      have hb255 := byte_lt b
      obtain ⟨hb0, hb1⟩ := hb255
      have hx1 : (0 : Int) ≤ (p : Int) + (i : Int) := by omega
      have e2 : ((p : Int) + (i : Int)).toNat = p + i := by omega
      have hx2 : (p : Int) + (i : Int) < (bs.length : Int) := by omega
      have HC := Lib.hid hcs
      have hS : varGo bs p most (10 - i) i n = (if i = 9 ∧ 1 < b.toNat then (.dead p 11, 0) else if b.toNat < 128 then (if b.toNat = 0 ∧ 0 < i then (.dead p 11, 0) else if most < n + b.toNat * 128 ^ i then (.dead p 12, 0) else (.live (p + i + 1), n + b.toNat * 128 ^ i)) else varGo bs p most (9 - i) (i + 1) (n + b.toNat % 128 * 128 ^ i)) := by rw [show 10 - i = (9 - i) + 1 by omega, varGo, hbi]
      have HMM := Lib.hid hmm
      clear hcs hbi
      by_cases ca : i = 9 ∧ 1 < b.toNat
      · rw [if_pos ca] at hS
        have HS := Lib.hid hS
        clear hS hmm
        obtain ⟨rfl, ca2⟩ := ca
        go_wp2_with fail
        go_quiet (fail)
        go_wp2_with fail
        go_quiet (fail)
        go_wp2_with fail
        refine (rstop_any p 11 (hb.drewN _) h4).mono ?_
        rintro e w1 ⟨rfl, D, M⟩
        go_wp2_with fail
        go_ret
        refine ⟨.dead p 11, 0, ?_, rfl, D, ((Mod.refl (one g) w).drewN _).and_then M⟩
        rw [varA, ← HG.out, HS.out]
      · rw [if_neg ca] at hS
        have hN : n + b.toNat % 128 * 128 ^ i < 18446744073709551616 := by
          by_cases h9 : i = 9
          · subst h9
            have : b.toNat ≤ 1 := by omega
            have h2 : b.toNat % 128 * 128 ^ 9 ≤ 1 * 128 ^ 9 := Nat.mul_le_mul_right _ (by omega)
            have : (128 : Nat) ^ 9 = 9223372036854775808 := by decide
            omega
          · have h1 : b.toNat % 128 * 128 ^ i ≤ 127 * 128 ^ i := Nat.mul_le_mul_right _ (by omega)
            have h2 : (128 : Nat) ^ (i + 1) ≤ 128 ^ 9 := Nat.pow_le_pow_right (by decide) (by omega)
            rw [Nat.pow_succ] at h2
            have : (128 : Nat) ^ 9 = 9223372036854775808 := by decide
            omega
        have hN2 : n + b.toNat % 128 * 128 ^ i < 128 ^ (i + 1) := by
          have h1 : b.toNat % 128 * 128 ^ i ≤ 127 * 128 ^ i := Nat.mul_le_mul_right _ (by omega)
          rw [Nat.pow_succ]; omega
        rw [← hmm] at hN hN2
        obtain ⟨X, hX⟩ : ∃ X, X = b.toNat % 128 * m := ⟨_, rfl⟩
        rw [← hX] at hN hN2
        obtain ⟨N, hNN⟩ : ∃ N, N = n + X := ⟨_, rfl⟩
        rw [← hNN] at hN hN2
        have F1 : IntKind.u64.wrap ((b.toNat : Int) % 128 * (m : Int)) = (X : Int) := by
          rw [show (b.toNat : Int) % 128 * (m : Int) = (X : Int) by rw [hX]; push_cast; rfl]
          exact IntWalk.u64_in _ (by omega)
        have F2 : IntKind.u64.wrap ((n : Int) + (X : Int)) = (N : Int) := by
          rw [show (n : Int) + (X : Int) = (N : Int) by rw [hNN]; push_cast; rfl]
          exact IntWalk.u64_in _ (by omega)
        have HN := Lib.hid (And.intro hN hN2)
        have HXX := Lib.hid hX
        have HNN := Lib.hid hNN
        have HP := Lib.hid hpi
        by_cases c128 : b.toNat < 128
        · have hbN : n + b.toNat * 128 ^ i = N := by rw [hNN, hX, hmm, Nat.mod_eq_of_lt c128]
          rw [if_pos c128, hbN] at hS
          have HS := Lib.hid hS
          have fr1 := hb.free 1
          clear hS hbN hNN hX hmm hN hN2 hn
          go_wp2_with fail
          go_quiet (fail)
          go_wp2_with fail
          go_quiet (fail)
          go_wp2_with fail
          all_goals first
            | (go_at_call 54
               refine (rstop_v p 11 (hb.drewN _) h4 rfl (by omega)).mono ?_
               rintro e w1 ⟨rfl, D, M⟩
               go_wp2_with fail
               go_ret
               refine ⟨.dead p 11, 0, ?_, rfl, D, ((Mod.refl (one g) w).drewN _).and_then M⟩
               rw [varA, ← HG.out, HS.out]
               rw [if_pos (by omega)]
               done)
            | (go_at_call 54
               refine (rstop_v p 12 (hb.drewN _) h4 rfl (by omega)).mono ?_
               rintro e w1 ⟨rfl, D, M⟩
               go_wp2_with fail
               go_ret
               refine ⟨.dead p 12, 0, ?_, rfl, D, ((Mod.refl (one g) w).drewN _).and_then M⟩
               rw [varA, ← HG.out, HS.out]
               rw [if_neg (by omega), if_pos (by omega)]
               done)
            | (go_ret
               have L := fun n => rlive_put (p' := p + i + 1) hb h1 h2 HA.out (by omega) n (v := (p : Int) + (i : Int) + 1) (by omega)
               refine ⟨.live (p + i + 1), N, ?_, rfl, (L _).1, (L _).2⟩
               rw [varA, ← HG.out, HS.out]
               rw [if_neg (by omega), if_neg (by omega)]
               done)
            | (go_ret
               have L := fun n => rlive_put (p' := p + i + 1) hb h1 h2 HA.out (by omega) n (v := (p : Int) + ((i : Int) + 1)) (by omega)
               refine ⟨.live (p + i + 1), N, ?_, rfl, (L _).1, (L _).2⟩
               rw [varA, ← HG.out, HS.out]
               rw [if_neg (by omega), if_neg (by omega)]
               done)
            | (go_ret
               have L := fun n => rlive_put (p' := p + i + 1) hb h1 h2 HA.out (by omega) n (v := (p : Int) + 9 + 1) (by omega)
               refine ⟨.live (p + i + 1), N, ?_, rfl, (L _).1, (L _).2⟩
               rw [varA, ← HG.out, HS.out]
               rw [if_neg (by omega), if_neg (by omega)]
               done)
            | trace_state
        · rw [if_neg c128, ← hmm, ← hX, ← hNN] at hS
          have HS := Lib.hid hS
          clear hS hNN hX hmm hN hN2 hn
          go_wp2_with fail
          go_quiet (fail)
          go_wp2_with fail
          go_quiet (fail)
          go_wp2_with fail
          go_roundw
          case rel =>
            refine ⟨i + 1, N, _, m * 128, by omega, HN.out.2, by omega, by go_num, rfl, by rw [HMM.out, Nat.pow_succ], ?_, rfl, ?_⟩
            · have h9 : i < 9 := by omega
              have h2 : (128 : Nat) ^ (i + 1) ≤ 128 ^ 9 := Nat.pow_le_pow_right (by decide) (by omega)
              have h3 : (128 : Nat) ^ 9 = 9223372036854775808 := by decide
              have h4 : m * 128 ≤ 9223372036854775808 := by rw [HMM.out, ← Nat.pow_succ]; omega
              congr 1
              first
                | omega
                | (rw [IntWalk.u64_in _ (by omega)]; omega)
            · rw [← HG.out, HS.out, show 10 - (i + 1) = 9 - i by omega]
          case measure => simp [intOf]; omega

end Go.Proofs.Ytpfkcejndjnbhaa.RD
