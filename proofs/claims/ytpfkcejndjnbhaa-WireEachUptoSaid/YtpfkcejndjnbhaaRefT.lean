/- The document's taker: a text, a key. -/
import Derived.Test.YtpfkcejndjnbhaaRefF
namespace Go.Proofs.Ytpfkcejndjnbhaa.RD
open Go.RowKit Mem WM
open Go.Proofs.Ytpfkcejndjnbhaa.WD (RdT RdB u8_info conv_string own_lower own_mod conv_range fixA_lt raw_len key_size mod_sets)
set_option linter.unusedVariables false
set_option linter.unusedSimpArgs false

theorem RAt.stopped {w : World} {g gb : Nat} {bs : List UInt8} {a e : Nat} (h : RAt w g gb bs (.dead a e)) : w.cell? ⟨g, 2, none⟩ = some (.bool true) := by
  obtain ⟨A, c, p, hb, h1⟩ := h
  have := hb.cell 2
  simpa using this
theorem RAt.goes {w : World} {g gb : Nat} {bs : List UInt8} {p : Nat} (h : RAt w g gb bs (.live p)) : w.cell? ⟨g, 2, none⟩ = some (.bool false) ∧ w.cell? ⟨g, 1, none⟩ = some (.int .i64 (p : Int)) := by
  obtain ⟨A, c, hb, h1, h2, h3, h4⟩ := h
  have h2 := hb.cell 2
  have h1 := hb.cell 1
  exact ⟨by simpa using h2, by simpa using h1⟩

theorem rvar_v {w : World} {g gb : Nat} {bs : List UInt8} {p : Nat} (most : Nat) {v : Int} (hv : v = (most : Int)) (h : RLive w g gb bs p) (hm2 : most < 18446744073709551616) :
    Calls Try.prog 20 #[.pointer (some ⟨g, 0, none⟩), .int .u64 v] w fun e w' => ∃ s n, Hid (varGo bs p most 10 0 0 = (s, n)) ∧ e = .returned (.int .u64 (n : Int)) ∧ RAt w' g gb bs s ∧ Mod (one g) w w' := by
  subst hv
  refine (rvar_live most h hm2).mono ?_
  rintro e w' ⟨s, n, h1, h2⟩
  exact ⟨s, n, Lib.hid h1, h2⟩

theorem rawA_nat (bs : List UInt8) (q m : Nat) : rawA bs (.live q) (m : Int) = if m ≤ bs.length - q then (.live (q + m), (bs.drop q).take m) else (.dead q 10, []) := by
  simp only [rawA]
  by_cases hm : m = 0
  · subst hm; simp
  · rw [if_neg (by omega), Int.toNat_natCast]

set_option maxRecDepth 100000 in
set_option maxHeartbeats 1000000 in
theorem rtext_any {w : World} {g gb : Nat} {bs : List UInt8} {s : St} (n : Int) (h : RAt w g gb bs s) (hb : bs.length ≤ 70368744177664) (hn1 : -9223372036854775808 ≤ n) (hn2 : n ≤ 9223372036854775807) :
    Calls Try.prog 71 #[.pointer (some ⟨g, 0, none⟩), .int .i64 n] w fun e w' =>
      e = .returned (.string ⟨(textA bs s n).2.toArray⟩) ∧ RAt w' g gb bs (textA bs s n).1 ∧ Mod (one g) w w' := by
  cases s with
  | dead a e =>
    have H := Lib.hid h
    have c2 := h.stopped
    clear h
    go_enter Try.func71, Try.ntmps71
    go_wp2_with fail
    go_ret
    exact ⟨rfl, H.out, Mod.refl _ _⟩
  | live p =>
    have H := Lib.hid h
    have HB := Lib.hid hb
    have hp : p ≤ bs.length := h.fit
    obtain ⟨c2, c1⟩ := h.goes
    clear h hb
    by_cases hneg : n < 0
    all_goals
      go_enter Try.func71, Try.ntmps71
      go_wp2_with fail
      refine (rvar_v n.toNat (by omega) H.out (by omega)).mono ?_
      rintro e w1 ⟨s1, m, HV, rfl, D1, M1⟩
      clear c1 c2
      cases s1 with
      | dead a e =>
        have HD := Lib.hid D1
        have c2 := D1.stopped
        clear D1
        go_wp2_with fail
        go_ret
        have ht : textA bs (.live p) n = (.dead a e, []) := by simp only [textA, HV.out]
        rw [ht]
        exact ⟨rfl, HD.out, M1⟩
      | live q =>
        have HD := Lib.hid D1
        obtain ⟨c2, c1⟩ := D1.goes
        clear D1
        have hvb := varGo_10 bs p n.toNat q m hp HV.out
        obtain ⟨hv1, hv2, hv3, hv4⟩ := hvb
        clear hv4
        have ewm : IntKind.i64.wrap (m : Int) = (m : Int) := IntWalk.i64_in _ (by omega)
        go_wp2_with fail
        refine (rraw_any (m : Int) HD.out HB.out).mono ?_
        rw [rawA_nat]
        by_cases hm : m ≤ bs.length - q
        · rw [if_pos hm]
          rintro e w2 ⟨A2, k2, rfl, hown, D2, M2⟩
          have ht : textA bs (.live p) n = (.live (q + m), (bs.drop q).take m) := by simp only [textA, HV.out]; rw [if_pos hm]
          have HT := Lib.hid ht
          have HD2 := Lib.hid D2
          have HM2 := Lib.hid M2
          have hrd := RdT.of_own hown
          obtain ⟨d2, d1⟩ := RAt.goes D2
          obtain ⟨L, hL⟩ : ∃ L, L = ((bs.drop q).take m).length := ⟨_, rfl⟩
          have hcv := conv_string hrd L k2 hL
          rw [← hL]
          clear c1 c2 ht D2 M2 hown hm hrd hL
          go_wp2_with fail
          go_ret
          rw [HT.out]
          exact ⟨rfl, HD2.out, M1.and_then HM2.out⟩
        · rw [if_neg hm]
          rintro e w2 ⟨A2, k2, rfl, hown, D2, M2⟩
          have ht : textA bs (.live p) n = (.dead p 10, []) := by simp only [textA, HV.out]; rw [if_neg hm]
          have HT := Lib.hid ht
          obtain ⟨A5, c5, p5, hb5, h5⟩ := D2
          have d1 := hb5.cell 1
          have d2 := hb5.cell 2
          have d3 := hb5.cell 3
          have f1 := hb5.free 1
          have f3 := hb5.free 3
          simp at d1 d2 d3
          clear c1 c2 ht hown hm
          go_wp2_with fail
          go_ret
          rw [HT.out]
          exact ⟨rfl, ⟨A5, c5, (p : Int), by simpa using (hb5.put 1 (.int .i64 (p : Int))).put 3 (.int .i64 (p : Int)), hp⟩, ((M1.and_then M2).set (p := ⟨g, 1, none⟩) (fun _ => rfl) _).set (p := ⟨g, 3, none⟩) (fun _ => rfl) _⟩

end Go.Proofs.Ytpfkcejndjnbhaa.RD
