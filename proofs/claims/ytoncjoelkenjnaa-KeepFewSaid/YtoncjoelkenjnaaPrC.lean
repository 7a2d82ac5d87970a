/- The document's order: newest. -/
import Derived.Test.YtoncjoelkenjnaaPrB
namespace Go.Proofs.Ytoncjoelkenjnaa.PL
open Go.RowKit Mem Go.Proofs.Ytoncjoelkenjnaa.Days Go.Proofs.Ytoncjoelkenjnaa.SS
set_option linter.unusedVariables false
set_option linter.unusedSimpArgs false

/-- The outer loop. -/
def N1 (w : World) (n : Nat) (tm : Nat → Int) (v3 v4 : Value) (wr : World) : Prop := ∃ (i c : Nat) (A : Option Addr) (M : List Int), i ≤ n ∧ v3 = .slice A i c ∧ v4 = .int .i64 (i : Int) ∧ Row wr w.heap.size 3 A i c M ∧ Sd (keyT tm) M (ints i) ∧ Mod no w wr
/-- The search for the place. -/
def N2 (wr : World) (tm : Nat → Int) (i : Nat) (M : List Int) (v5 : Value) (W : World) : Prop := ∃ (k q : Nat) (M1 M2 : List Int), M = M1 ++ M2 ∧ M1.length = k ∧ v5 = .int .i64 (k : Int) ∧ (∀ m ∈ M2, tm m.toNat < tm i) ∧ W = wr.drewN q
/-- The loop that makes room. -/
def N3 (w W2 : World) (i c : Nat) (A : Option Addr) (M1 M2 : List Int) (v6 : Value) (W : World) : Prop := ∃ (j : Nat) (X B : List Int) (z : Int), M2 = X ++ B ∧ M1.length + X.length = j ∧ v6 = .int .i64 (j : Int) ∧ Row W w.heap.size 3 A (i + 1) c (M1 ++ X ++ z :: B) ∧ Mod (ofA A) W2 W
theorem getD_mid {A C : List Int} {x : Int} {q : Nat} (h : q = A.length) : (A ++ x :: C).getD q 0 = x := by
  subst h
  rw [List.getD_eq_getElem?_getD, List.getElem?_append_right (Nat.le_refl _), Nat.sub_self]
  rfl
theorem ofA_row {W : World} {base n c : Nat} {e : TypeId} {A : Option Addr} {L : List Int} (h : Row W base e A n c L) {w0 W' : World} (m : Mod no w0 W) (m' : Mod (ofA A) W W') (hb : w0.heap.size ≤ base) : Mod no w0 W' :=
  m.trans m' (fun k hk c => by have := (h.lt c).1; omega)
theorem qfacts {q k : Nat} (h : q + 1 = k) (hk : k ≤ 1048600) : wrap64 ((k : Int) - 1) = (q : Int) ∧ IntKind.i64.wrap ((k : Int) - 1) = (q : Int) := ⟨by rw [IntWalk.wrap64_in _ (by omega)]; omega, by rw [IntKind.wrap_i64]; omega⟩
theorem le_of_hid {a b : Int} (h : RowKit.Hid (a ≤ b)) : a ≤ b := h.out
theorem new_srt {tm : Nat → Int} {i : Nat} {M1 M2 : List Int} (h : Sd (keyT tm) (M1 ++ M2) (ints i)) (h2 : ∀ m ∈ M2, tm m.toNat < tm i) (hs : M1 = [] ∨ ∃ M y, M1 = M ++ [y] ∧ ¬ tm y.toNat < tm i) : Sd (keyT tm) (M1 ++ (i : Int) :: M2) (ints (i + 1)) := by
  refine ⟨?_, put_in h.srt (fun m hm => ?_) (fun m hm => ?_) ?_⟩
  · rw [ints_succ]
    exact List.perm_middle.trans ((h.perm.cons _).trans (List.perm_append_singleton _ _).symm)
  · unfold keyT
    have := h2 m hm
    rw [Int.toNat_natCast]
    omega
  · have := mem_ints.1 (h.perm.mem_iff.1 (List.mem_append_left _ hm))
    omega
  · rcases hs with rfl | ⟨M, y, rfl, hy⟩
    · exact .inl rfl
    · refine .inr ⟨M, y, rfl, ?_⟩
      unfold keyT
      rw [Int.toNat_natCast]
      omega
set_option maxRecDepth 100000 in
set_option maxHeartbeats 4000000 in
theorem newest_any {w : World} {A : Option Addr} {b o n c : Nat} {nm : Nat → ByteArray} {tm : Nat → Int} (H : ShA w A b o n nm tm) (hn : n ≤ 1048500) :
    Calls Try.prog 42 #[.slice A n c] w fun e w' => ∃ A' c' M, e = .returned (.slice A' n c') ∧ Row w' w.heap.size 3 A' n c' M ∧ Sd (keyT tm) M (ints n) ∧ Mod no w w' := by
  have HH := Lib.hid H
  have HN := Lib.hid hn
  clear H hn
  go_enter Try.func42, Try.ntmps42
  go_wp2_with fail
  go_loopw [3, 4, 5, 6] (fun v3 v4 _ _ wr => N1 w n tm v3 v4 wr) (fun _ vi _ _ _ => n - (intOf vi).toNat)
  case atStart => exact ⟨0, 0, none, [], Nat.zero_le _, rfl, rfl, Row.nil _ _ _, ⟨List.Perm.refl _, List.Pairwise.nil⟩, Mod.refl _ _⟩
  case round =>
    obtain ⟨W1, rfl⟩ : ∃ W1, W1 = wr := ⟨_, rfl⟩
    obtain ⟨i, c1, A1, M, hi, rfl, rfl, hrow, hsd, hM⟩ := hrel
    by_cases hlt : i < n
    · have hsh := HH.out.mod hM (fun _ c => c)
      obtain rfl := hsh.at_ (by omega)
      have ci := hsh.time i hlt
      have g1 : (i : Int) < (n : Int) := by omega
      have g2 : ¬ (i : Int) < 0 := by omega
      obtain ⟨t, ht⟩ : ∃ t, t = tm i := ⟨_, rfl⟩
      rw [← ht] at ci
      have HX := Lib.hid (And.intro hrow (And.intro hsd (And.intro hM (And.intro hsh (And.intro hlt ht)))))
      have HQ := Lib.hid (show N2 W1 tm i M (.int .i64 (i : Int)) W1 from ⟨i, 0, M, [], by simp, by rw [hsd.len, ints_len], rfl, by simp, rfl⟩)
      clear hrow hsd hM hsh hlt ht hi
      go_wp2_with fail
      go_loopw [5] (N2 W1 tm i M) (fun vk _ => (intOf vk).toNat)
      case atStart => exact HQ.out
      case round =>
        clear HQ
        obtain ⟨k, q0, M1, M2, hMM, hMk, rfl, hM2, hW⟩ := hrel
        have hki : k ≤ i := by have := HX.out.2.1.len; rw [ints_len, hMM, List.length_append] at this; omega
        have HW := Lib.hid hW
        have HK := Lib.hid (And.intro hMM (And.intro hMk (And.intro hM2 hki)))
        clear ci
        have ci : wr.cell? ⟨b, o + i * 2 + 1, none⟩ = some (.int .i64 t) := by rw [hW, HX.out.2.2.2.2.2]; simpa using HX.out.2.2.2.1.time i HX.out.2.2.2.2.1
        rcases List.eq_nil_or_concat M1 with hM1 | ⟨M1', y, hM1⟩
        · have hk0 : k = 0 := by rw [hM1] at hMk; exact hMk.symm
          have d1 : decide (0 < k) = false := decide_eq_false (by omega)
          have d2 : ¬ 0 < k := by omega
          have d3 : ¬ (0 : Int) < (k : Int) := by omega
          have HM1 := Lib.hid hM1
          clear hMM hMk hM2 hki hW hM1 hk0
          go_wp2_with fail
          go_quiet (fail)
          skip
          obtain ⟨q2, W2, hW2⟩ : ∃ q2 W2, W2 = (wr.drewN q2 : World) := ⟨nq, wr.drewN nq, rfl⟩
          have hm2 : Mod no W1 (wr.drewN nq) := by rw [HW.out]; exact ((Mod.refl no W1).drewN _).drewN _
          have hrow2 := HX.out.1.mod hm2 (fun _ _ _ _ c => c)
          have hsz2 : w.heap.size ≤ (wr.drewN nq).heap.size := Nat.le_trans HX.out.2.2.1.size hm2.size
          have HR2 := Lib.hid (And.intro hrow2 (And.intro hm2 hsz2))
          clear hm2 hrow2 hsz2 hW2
          generalize wr.drewN nq = W3 at *
          go_wp2_with (first
            | (at_builtin
               refine wpList_row1 rfl (.tmp 36) (.tmp 37) 76 rfl w.heap.size 3 Try.underlying76 int_info W3 A1 i c1 M 0 rfl rfl HR2.out.1 (by have := HN.out; have := HX.out.2.2.2.2.1; omega) HR2.out.2.2 ?_
               intro A4 c4 W4 hr4 hm4 _ _
               have HR4 := Lib.hid (And.intro hr4 (ofA_row HR2.out.1 (HX.out.2.2.1.and_then HR2.out.2.1) hm4 (Nat.le_refl _)))
               clear hr4 hm4))
          have W5 : RowKit.Hid (wrap64 ((i : Int) + 1 - 1) = (i : Int)) := Lib.hid <| by rw [IntWalk.wrap64_in _ (by have := HN.out; have := HX.out.2.2.2.2.1; omega)]; omega
          have W5b : RowKit.Hid (wrap64 (i : Int) = (i : Int)) := Lib.hid <| IntWalk.wrap64_in _ (by have := HN.out; have := HX.out.2.2.2.2.1; omega)
          obtain ⟨g4, o4, rfl, hg4, hl4, _, _⟩ := HR4.out.1.get (j := i) (by omega)
          have HN3 := Lib.hid (show N3 w W4 i c4 (some ⟨g4, o4, none⟩) M1 M2 (.int .i64 (i : Int)) W4 from ⟨i, M2, [], 0, by simp, by have := HX.out.2.1.len; rw [ints_len, HK.out.1, List.length_append] at this; omega, rfl, by have h := HR4.out.1; rw [HK.out.1] at h; exact h, Mod.refl _ _⟩)
          have w5 := W5.out
          go_wp2_with fail
          go_loopw [6] (N3 w W4 i c4 (some ⟨g4, o4, none⟩) M1 M2) (fun vj _ => (intOf vj).toNat)
          case atStart => first | exact HN3.out | (rw [w5]; exact HN3.out) | (simp only [Int.add_sub_cancel, W5b.out]; exact HN3.out)
          case round =>
            clear HN3 w5
            obtain ⟨j, X, B, z, hXB, hj, rfl, hrow, hm5⟩ := hrel
            have hjn : j < i + 1 := by have h := hrow.1; simp only [List.length_append, List.length_cons] at h; omega
            rcases List.eq_nil_or_concat X with hX0 | ⟨X', y2, hX0⟩
            · have hjk : ¬ (k : Int) < (j : Int) := by have := HK.out.2.1; rw [hX0] at hj; simp at hj; omega
              have hM2e : M2 = B := by rw [hXB, hX0, List.nil_append]
              obtain ⟨g5, o5, he5, hg5, hl5, cj, rj⟩ := hrow.get (j := k) (by have := HK.out.2.2.2; omega)
              injection he5 with he5
              injection he5 with he5 he6
              subst he5 he6
              have g6 : (k : Int) < (i : Int) + 1 := by have := HK.out.2.2.2; omega
              have g7 : ¬ (k : Int) < 0 := by omega
              have w6 : wrap64 ((i : Int) + 1) = (i : Int) + 1 := IntWalk.wrap64_in _ (by have := HN.out; have := HX.out.2.2.2.2.1; omega)
              have HZ := Lib.hid (And.intro hrow (And.intro hm5 (And.intro hX0 hM2e)))
              clear hXB hj hrow hm5 hjn hX0 hM2e
              go_wp2_with fail
              go_roundw
              case rel =>
                obtain ⟨hrow, hm5, hX0, hM2e⟩ := HZ.out
                have h := hrow.set rfl (j := k) (by have := HK.out.2.2.2; omega) (i : Int)
                have e1 : (M1 ++ X ++ z :: B).set k (i : Int) = M1 ++ (i : Int) :: M2 := by
                  rw [hX0, List.append_nil, ← HK.out.2.1, set_mid, hM2e]
                rw [e1] at h
                refine ⟨i + 1, c4, _, _, HX.out.2.2.2.2.1, rfl, by go_num, h, new_srt (by rw [← HK.out.1]; exact HX.out.2.1) HK.out.2.2.1 (.inl HM1.out), ?_⟩
                exact ofA_row HR4.out.1 HR4.out.2 (hm5.set (p := ⟨g4, o4 + k, none⟩) (fun _ => ⟨o4, rfl⟩) _) (Nat.le_refl _)
              case measure =>
                have := HX.out.2.2.2.2.1
                try rw [w6]
                clear w6
                show n - ((i : Int) + 1).toNat < n - ((i : Int)).toNat
                omega
            · rw [List.concat_eq_append] at hX0
              obtain ⟨q, hq⟩ : ∃ q, q + 1 = j := ⟨M1.length + X'.length, by rw [hX0, List.length_append] at hj; simp at hj; omega⟩
              have hqX : q = (M1 ++ X').length := by rw [hX0, List.length_append] at hj; simp at hj ⊢; omega
              have hkj : (k : Int) < (j : Int) := by have := HK.out.2.1; rw [List.length_append] at hqX; omega
              obtain ⟨g5, o5, he5, hg5, hl5, cq, rq⟩ := hrow.get (j := q) (by omega)
              obtain ⟨g6, o6, he6, hg6, hl6, cj, rj⟩ := hrow.get (j := j) hjn
              injection he5 with he5
              injection he5 with he5 he7
              subst he5 he7
              injection he6 with he6
              injection he6 with he6 he7
              subst he6 he7
              have eL : M1 ++ X ++ z :: B = (M1 ++ X') ++ y2 :: z :: B := by rw [hX0]; simp
              rw [eL, getD_mid hqX] at cq
              have g8 : (q : Int) < (i : Int) + 1 := by omega
              have g9 : ¬ (q : Int) < 0 := by omega
              have g10 : (j : Int) < (i : Int) + 1 := by omega
              have g11 : ¬ (j : Int) < 0 := by omega
              have w7 : wrap64 ((j : Int) - 1) = (q : Int) := by rw [IntWalk.wrap64_in _ (by have := HN.out; have := HX.out.2.2.2.2.1; omega)]; omega
              have HZ := Lib.hid (And.intro hrow (And.intro hm5 (And.intro eL (And.intro hqX (And.intro hq (And.intro hX0 (And.intro hXB hjn)))))))
              clear hXB hj hrow hm5 hjn hX0 hqX eL hq
              go_wp2_with fail
              go_roundw
              case rel =>
                obtain ⟨hrow, hm5, eL, hqX, hq, hX0, hXB, hjn⟩ := HZ.out
                have h := hrow.set rfl (j := j) hjn y2
                have e1 : (M1 ++ X ++ z :: B).set j y2 = M1 ++ X' ++ y2 :: (y2 :: B) := by
                  have e2 : (M1 ++ X') ++ y2 :: z :: B = (M1 ++ X' ++ [y2]) ++ z :: B := by simp
                  rw [eL, e2, show j = (M1 ++ X' ++ [y2]).length by rw [List.length_append, ← hqX]; exact hq.symm, set_mid]
                  simp
                rw [e1] at h
                exact ⟨q, X', y2 :: B, y2, by rw [hXB, hX0]; simp, by rw [hqX, List.length_append], by first | rfl | rw [w7], h, hm5.set (p := ⟨g4, o4 + j, none⟩) (fun _ => ⟨o4, rfl⟩) _⟩
              case measure =>
                have := HZ.out.2.2.2.2.1
                try rw [w7]
                clear w7
                show ((q : Int)).toNat < ((j : Int)).toNat
                omega
        · rw [List.concat_eq_append] at hM1
          obtain ⟨q, hq⟩ : ∃ q, q + 1 = k := ⟨M1'.length, by rw [hM1, List.length_append] at hMk; exact hMk⟩
          have hqM : q = M1'.length := by rw [hM1, List.length_append] at hMk; simp at hMk; omega
          have hym : y ∈ ints i := HX.out.2.1.perm.mem_iff.1 (by rw [hMM, hM1]; simp)
          obtain ⟨hy0, hyi⟩ := mem_ints.1 hym
          obtain ⟨y0, rfl⟩ : ∃ y0 : Nat, y = (y0 : Int) := ⟨y.toNat, by omega⟩
          rw [Int.toNat_natCast] at hyi
          have hrw := HX.out.1.mod (w' := wr) (S := no) (by rw [hW]; exact (Mod.refl no W1).drewN _) (fun _ _ _ _ c => c)
          obtain ⟨g5, o5, rfl, hg5, hl5, cq, rq⟩ := hrw.get (j := q) (by omega)
          have eM : M = M1' ++ (y0 : Int) :: M2 := by rw [hMM, hM1]; simp
          rw [eM, getD_mid hqM] at cq
          have cy : wr.cell? ⟨b, o + y0 * 2 + 1, none⟩ = some (.int .i64 (tm y0)) := by rw [hW]; simpa using HX.out.2.2.2.1.time y0 (by have := HX.out.2.2.2.2.1; omega)
          obtain ⟨ty, hty⟩ : ∃ ty, ty = tm y0 := ⟨_, rfl⟩
          rw [← hty] at cy
          have d1 : decide (0 < k) = true := decide_eq_true (by omega)
          have d2 : 0 < k := by omega
          have d3 : (0 : Int) < (k : Int) := by omega
          have g3 : (q : Int) < (i : Int) := by omega
          have g4 : ¬ (q : Int) < 0 := by omega
          have g5' : (y0 : Int) < (n : Int) := by have := HX.out.2.2.2.2.1; omega
          have g6' : ¬ (y0 : Int) < 0 := by omega
          have hk9 : k ≤ 1048600 := by have := HN.out; have := HX.out.2.2.2.2.1; omega
          obtain ⟨w2, w3⟩ := qfacts hq hk9
          clear hk9
          have HM1 := Lib.hid (And.intro hM1 (And.intro hq (And.intro hqM (And.intro eM hty))))
          clear hMM hMk hM2 hki hW hM1 hq hqM hym hy0 hyi hrw eM hty hg5 hl5 rq
          by_cases hlt : ty < t
          · have d4 : decide (ty < t) = true := decide_eq_true hlt
            have HLT := Lib.hid hlt
            go_wp2_with fail
            go_quiet (fail)
            go_wp2_with fail
            go_roundw
            case rel =>
              exact ⟨q, q0 + nq, M1', (y0 : Int) :: M2, HM1.out.2.2.2.1, HM1.out.2.2.1.symm, by first | rfl | rw [w2], fun m hm => by
                rcases List.mem_cons.1 hm with rfl | hm
                · rw [Int.toNat_natCast, ← HM1.out.2.2.2.2, ← HX.out.2.2.2.2.2]; exact HLT.out
                · exact HK.out.2.2.1 m hm, by rw [HW.out, World.drewN_drewN]⟩
            case measure =>
              have := HM1.out.2.1
              try rw [w2]
              clear w2 w3
              show ((q : Int)).toNat < ((k : Int)).toNat
              omega
          · have d4 : decide (ty < t) = false := decide_eq_false hlt
            have HLT := Lib.hid (Int.not_lt.1 hlt)
            clear hlt
            go_wp2_with fail
            go_quiet (fail)
            clear w2 w3 cy cq d1 d2 d3 d4 g3 g4 g5' g6'
            obtain ⟨q2, W2, hW2⟩ : ∃ q2 W2, W2 = (wr.drewN q2 : World) := ⟨nq, wr.drewN nq, rfl⟩
            have hm2 : Mod no W1 (wr.drewN nq) := by rw [HW.out]; exact ((Mod.refl no W1).drewN _).drewN _
            have hrow2 := HX.out.1.mod hm2 (fun _ _ _ _ c => c)
            have hsz2 : w.heap.size ≤ (wr.drewN nq).heap.size := Nat.le_trans HX.out.2.2.1.size hm2.size
            have HR2 := Lib.hid (And.intro hrow2 (And.intro hm2 hsz2))
            clear hm2 hrow2 hsz2 hW2
            generalize wr.drewN nq = W3 at *
            go_wp2_with (first
              | (at_builtin
                 refine wpList_row1 rfl (.tmp 36) (.tmp 37) 76 rfl w.heap.size 3 Try.underlying76 int_info W3 (some ⟨g5, o5, none⟩) i c1 M 0 rfl rfl HR2.out.1 (by have := HN.out; have := HX.out.2.2.2.2.1; omega) HR2.out.2.2 ?_
                 intro A4 c4 W4 hr4 hm4 _ _
                 have HR4 := Lib.hid (And.intro hr4 (ofA_row HR2.out.1 (HX.out.2.2.1.and_then HR2.out.2.1) hm4 (Nat.le_refl _)))
                 clear hr4 hm4))
            have W5 : RowKit.Hid (wrap64 ((i : Int) + 1 - 1) = (i : Int)) := Lib.hid <| by rw [IntWalk.wrap64_in _ (by have := HN.out; have := HX.out.2.2.2.2.1; omega)]; omega
            have W5b : RowKit.Hid (wrap64 (i : Int) = (i : Int)) := Lib.hid <| IntWalk.wrap64_in _ (by have := HN.out; have := HX.out.2.2.2.2.1; omega)
            obtain ⟨g4, o4, rfl, hg4, hl4, _, _⟩ := HR4.out.1.get (j := i) (by omega)
            have HN3 := Lib.hid (show N3 w W4 i c4 (some ⟨g4, o4, none⟩) M1 M2 (.int .i64 (i : Int)) W4 from ⟨i, M2, [], 0, by simp, by have := HX.out.2.1.len; rw [ints_len, HK.out.1, List.length_append] at this; omega, rfl, by have h := HR4.out.1; rw [HK.out.1] at h; exact h, Mod.refl _ _⟩)
            have w5 := W5.out
            go_wp2_with fail
            go_loopw [6] (N3 w W4 i c4 (some ⟨g4, o4, none⟩) M1 M2) (fun vj _ => (intOf vj).toNat)
            case atStart => first | exact HN3.out | (rw [w5]; exact HN3.out) | (simp only [Int.add_sub_cancel, W5b.out]; exact HN3.out)
            case round =>
              clear HN3 w5
              obtain ⟨j, X, B, z, hXB, hj, rfl, hrow, hm5⟩ := hrel
              have hjn : j < i + 1 := by have h := hrow.1; simp only [List.length_append, List.length_cons] at h; omega
              rcases List.eq_nil_or_concat X with hX0 | ⟨X', y2, hX0⟩
              · have hjk : ¬ (k : Int) < (j : Int) := by have := HK.out.2.1; rw [hX0] at hj; simp at hj; omega
                have hM2e : M2 = B := by rw [hXB, hX0, List.nil_append]
                obtain ⟨g5, o5, he5, hg5, hl5, cj, rj⟩ := hrow.get (j := k) (by have := HK.out.2.2.2; omega)
                injection he5 with he5
                injection he5 with he5 he6
                subst he5 he6
                have g6 : (k : Int) < (i : Int) + 1 := by have := HK.out.2.2.2; omega
                have g7 : ¬ (k : Int) < 0 := by omega
                have w6 : wrap64 ((i : Int) + 1) = (i : Int) + 1 := IntWalk.wrap64_in _ (by have := HN.out; have := HX.out.2.2.2.2.1; omega)
                have HZ := Lib.hid (And.intro hrow (And.intro hm5 (And.intro hX0 hM2e)))
                clear hXB hj hrow hm5 hjn hX0 hM2e
                go_wp2_with fail
                go_roundw
                case rel =>
                  obtain ⟨hrow, hm5, hX0, hM2e⟩ := HZ.out
                  have h := hrow.set rfl (j := k) (by have := HK.out.2.2.2; omega) (i : Int)
                  have e1 : (M1 ++ X ++ z :: B).set k (i : Int) = M1 ++ (i : Int) :: M2 := by
                    rw [hX0, List.append_nil, ← HK.out.2.1, set_mid, hM2e]
                  rw [e1] at h
                  refine ⟨i + 1, c4, _, _, HX.out.2.2.2.2.1, rfl, by go_num, h, new_srt (by rw [← HK.out.1]; exact HX.out.2.1) HK.out.2.2.1 (.inr ⟨M1', (y0 : Int), HM1.out.1, by rw [Int.toNat_natCast, ← HM1.out.2.2.2.2, ← HX.out.2.2.2.2.2]; exact Int.not_lt.2 (le_of_hid HLT)⟩), ?_⟩
                  exact ofA_row HR4.out.1 HR4.out.2 (hm5.set (p := ⟨g4, o4 + k, none⟩) (fun _ => ⟨o4, rfl⟩) _) (Nat.le_refl _)
                case measure =>
                  have := HX.out.2.2.2.2.1
                  try rw [w6]
                  clear w6
                  show n - ((i : Int) + 1).toNat < n - ((i : Int)).toNat
                  omega
              · rw [List.concat_eq_append] at hX0
                obtain ⟨q, hq⟩ : ∃ q, q + 1 = j := ⟨M1.length + X'.length, by rw [hX0, List.length_append] at hj; simp at hj; omega⟩
                have hqX : q = (M1 ++ X').length := by rw [hX0, List.length_append] at hj; simp at hj ⊢; omega
                have hkj : (k : Int) < (j : Int) := by have := HK.out.2.1; rw [List.length_append] at hqX; omega
                obtain ⟨g5, o5, he5, hg5, hl5, cq, rq⟩ := hrow.get (j := q) (by omega)
                obtain ⟨g6, o6, he6, hg6, hl6, cj, rj⟩ := hrow.get (j := j) hjn
                injection he5 with he5
                injection he5 with he5 he7
                subst he5 he7
                injection he6 with he6
                injection he6 with he6 he7
                subst he6 he7
                have eL : M1 ++ X ++ z :: B = (M1 ++ X') ++ y2 :: z :: B := by rw [hX0]; simp
                rw [eL, getD_mid hqX] at cq
                have g8 : (q : Int) < (i : Int) + 1 := by omega
                have g9 : ¬ (q : Int) < 0 := by omega
                have g10 : (j : Int) < (i : Int) + 1 := by omega
                have g11 : ¬ (j : Int) < 0 := by omega
                have w7 : wrap64 ((j : Int) - 1) = (q : Int) := by rw [IntWalk.wrap64_in _ (by have := HN.out; have := HX.out.2.2.2.2.1; omega)]; omega
                have HZ := Lib.hid (And.intro hrow (And.intro hm5 (And.intro eL (And.intro hqX (And.intro hq (And.intro hX0 (And.intro hXB hjn)))))))
                clear hXB hj hrow hm5 hjn hX0 hqX eL hq
                go_wp2_with fail
                go_roundw
                case rel =>
                  obtain ⟨hrow, hm5, eL, hqX, hq, hX0, hXB, hjn⟩ := HZ.out
                  have h := hrow.set rfl (j := j) hjn y2
                  have e1 : (M1 ++ X ++ z :: B).set j y2 = M1 ++ X' ++ y2 :: (y2 :: B) := by
                    have e2 : (M1 ++ X') ++ y2 :: z :: B = (M1 ++ X' ++ [y2]) ++ z :: B := by simp
                    rw [eL, e2, show j = (M1 ++ X' ++ [y2]).length by rw [List.length_append, ← hqX]; exact hq.symm, set_mid]
                    simp
                  rw [e1] at h
                  exact ⟨q, X', y2 :: B, y2, by rw [hXB, hX0]; simp, by rw [hqX, List.length_append], by first | rfl | rw [w7], h, hm5.set (p := ⟨g4, o4 + j, none⟩) (fun _ => ⟨o4, rfl⟩) _⟩
                case measure =>
                  have := HZ.out.2.2.2.2.1
                  try rw [w7]
                  clear w7
                  show ((q : Int)).toNat < ((j : Int)).toNat
                  omega
    · obtain rfl : i = n := by omega
      have HX := Lib.hid (And.intro hrow (And.intro hsd hM))
      have g1 : ¬ (i : Int) < (i : Int) := by omega
      clear hrow hsd hM hlt hi
      go_wp2_with fail
      go_ret
      first | exact ⟨A1, c1, M, rfl, HX.out.1, HX.out.2.1, HX.out.2.2⟩ | exact ⟨A1, c1, rfl, M, HX.out.1, HX.out.2.1, HX.out.2.2⟩
end Go.Proofs.Ytoncjoelkenjnaa.PL
