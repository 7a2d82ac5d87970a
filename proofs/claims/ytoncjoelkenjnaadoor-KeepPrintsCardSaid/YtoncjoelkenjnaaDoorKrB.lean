/- The document's number; the words of a rule. -/
import Derived.Test.YtoncjoelkenjnaaDoorKrA
namespace Go.Proofs.YtoncjoelkenjnaaDoor.KR
open Go.RowKit Mem
set_option linter.unusedVariables false
set_option linter.unusedSimpArgs false

def NI (l : List UInt8) (w : World) (vn vi vd : Value) (wr : World) : Prop := ∃ (i : Nat) (n : Int), i ≤ l.length ∧ vi = .int .i64 (i : Int) ∧ vn = .int .i64 n ∧ 0 ≤ n ∧ n ≤ 9223372036854775807 ∧ numGo n (l.drop i) = numGo 0 l ∧ Mod no w wr
set_option maxRecDepth 100000 in
set_option maxHeartbeats 4000000 in
theorem number_r {w : World} {l : List UInt8} (hl : l.length ≤ 1048600) : Calls Tryd.prog 17 #[.string (sv l)] w fun e w' => (∃ k : Int, e = .returned (.tuple #[.int .i64 (numGo 0 l), .int .i64 k])) ∧ Mod no w w' := by
  have hsz := sv_size l
  have HL := Lib.hid hl
  clear hl
  go_enter Tryd.func17, Tryd.ntmps17
  go_wp2_with fail
  go_loopw [4, 5, 6] (fun (v4 v5 v6 : Value) (wr : World) => NI l w v4 v5 v6 wr) (fun _ v5 _ _ => l.length - (intOf v5).toNat)
  case atStart => exact ⟨0, 0, Nat.zero_le _, rfl, rfl, by decide, by decide, rfl, Mod.refl _ _⟩
  case round =>
    obtain ⟨i, n, hi, rfl, rfl, hn0, hn1, heq, hM⟩ := hrel
    have hll := HL.out
    have HM := Lib.hid hM
    have HQ := Lib.hid heq
    clear hM heq
    by_cases hlt : i < l.length
    · have hsk : i < (sv l).size := by rw [hsz]; exact hlt
      have hj2 : (i : Int) < (l.length : Int) := by omega
      obtain ⟨b, hb⟩ : ∃ b : UInt8, b = l[i] := ⟨_, rfl⟩
      have hbv : (sv l)[i]'hsk = b := hb.symm
      have HD := Lib.hid (show l.drop i = b :: l.drop (i + 1) by rw [hb]; exact List.drop_eq_getElem_cons hlt)
      clear hb
      have HBV := Lib.hid hbv
      by_cases c1 : b.toNat < 48
      · have q1 : ((((sv l)[i]'hsk).toNat : Nat) : Int) < 48 := by rw [hbv]; omega
        have HE := Lib.hid (show numGo 0 l = n by rw [← HQ.out, HD.out, numGo, if_pos (.inl c1)])
        clear hbv
        go_wp2_with fail
        go_ret2
        exact ⟨⟨_, by rw [HE.out]; rfl⟩, HM.out⟩
      by_cases c2 : 57 < b.toNat
      · have q1 : ¬ ((((sv l)[i]'hsk).toNat : Nat) : Int) < 48 := by rw [hbv]; omega
        have q2 : (57 : Int) < ((((sv l)[i]'hsk).toNat : Nat) : Int) := by rw [hbv]; omega
        have HE := Lib.hid (show numGo 0 l = n by rw [← HQ.out, HD.out, numGo, if_pos (.inr c2)])
        clear hbv
        go_wp2_with fail
        go_ret2
        exact ⟨⟨_, by rw [HE.out]; rfl⟩, HM.out⟩
      have q1 : ¬ ((((sv l)[i]'hsk).toNat : Nat) : Int) < 48 := by rw [hbv]; omega
      have q2 : ¬ (57 : Int) < ((((sv l)[i]'hsk).toNat : Nat) : Int) := by rw [hbv]; omega
      obtain ⟨d, hd⟩ : ∃ d : Nat, d = b.toNat - 48 := ⟨_, rfl⟩
      have hd9 : d ≤ 9 := by omega
      have q3 : IntKind.u8.wrap (((((sv l)[i]'hsk).toNat : Nat) : Int) - 48) = (d : Int) := by rw [hbv, IntWalk.u8_in _ (by omega)]; omega
      have q4 : IntKind.i64.wrap (d : Int) = (d : Int) := IntWalk.i64_in _ (by omega)
      have q5 : IntKind.i64.wrap (9223372036854775807 - (d : Int)) = 9223372036854775807 - (d : Int) := IntWalk.i64_in _ (by omega)
      have q6 : (9223372036854775807 - (d : Int)).tdiv 10 = (9223372036854775807 - (d : Int)) / 10 := Int.tdiv_eq_ediv_of_nonneg (by omega)
      obtain ⟨m, hm⟩ : ∃ m : Int, m = (9223372036854775807 - (d : Int)) / 10 := ⟨_, rfl⟩
      have q7 : IntKind.i64.wrap m = m := IntWalk.i64_in _ (by omega)
      have q6' : (9223372036854775807 - (d : Int)).tdiv 10 = m := q6.trans hm.symm
      clear q6
      have HDB := Lib.hid (show (b.toNat : Int) - 48 = (d : Int) by omega)
      have HMM := Lib.hid hm
      have q8 : (9223372036854775807 - (d : Int)) / 10 = m := hm.symm
      clear hm hd c1 c2 hbv
      have hgo : numGo n (l.drop i) = if n > m then 0 else numGo (10 * n + (d : Int)) (l.drop (i + 1)) := by
        rw [HD.out, numGo, if_neg (by have := HDB.out; omega), HDB.out, ← HMM.out]
      by_cases c3 : n > m
      · have c3' : m < n := c3
        have HE := Lib.hid (show numGo 0 l = 0 by rw [← HQ.out, hgo, if_pos c3])
        clear hgo c3
        go_wp2_with fail
        go_ret2
        exact ⟨⟨_, by rw [HE.out]; rfl⟩, HM.out⟩
      · have c3' : ¬ m < n := c3
        have HE := Lib.hid (show numGo (10 * n + (d : Int)) (l.drop (i + 1)) = numGo 0 l by rw [← HQ.out, hgo, if_neg c3])
        clear hgo c3
        have hsum : 10 * n + (d : Int) ≤ 9223372036854775807 := by have := HMM.out; omega
        have q9 : IntKind.i64.wrap (10 * n) = 10 * n := IntWalk.i64_in _ (by omega)
        have q10 : IntKind.i64.wrap (10 * n + (d : Int)) = 10 * n + (d : Int) := IntWalk.i64_in _ (by omega)
        have HS := Lib.hid hsum
        clear hsum
        go_wp2_with fail
        refine ⟨⟨i + 1, 10 * n + (d : Int), by omega, by go_num, rfl, by omega, HS.out, HE.out, HM.out⟩, by simp only [intOf]; omega⟩
    · have hj2 : ¬ (i : Int) < (l.length : Int) := by omega
      have HE := Lib.hid (show numGo 0 l = n by rw [← HQ.out, List.drop_eq_nil_of_le (by omega)]; rfl)
      go_wp2_with fail
      go_ret2
      exact ⟨⟨_, by rw [HE.out]; rfl⟩, HM.out⟩
/-- The row of a rule's words. -/
def Wc (r : Rule) : List Value := r.all.flatMap fun p => [.string (sv p.1), .int .i64 p.2]
set_option maxRecDepth 100000 in
set_option maxHeartbeats 4000000 in
theorem words_p {w : World} (r : Rule) (hi : r.In) : Calls Tryd.prog 10 #[Rv r.l r.h r.d r.w r.m r.y r.x] w fun e w' => ∃ g, e = .returned (.slice (some ⟨g, 0, none⟩) 7 7) ∧ w.heap.size ≤ g ∧ Blk w' g 35 (Wc r).toArray ∧ Mod no w w' := by
  have e1 : IntKind.i64.wrap r.l = r.l := IntWalk.i64_in _ (by have := hi.l; omega)
  have e2 : IntKind.i64.wrap r.h = r.h := IntWalk.i64_in _ (by have := hi.h; omega)
  have e3 : IntKind.i64.wrap r.d = r.d := IntWalk.i64_in _ (by have := hi.d; omega)
  have e4 : IntKind.i64.wrap r.w = r.w := IntWalk.i64_in _ (by have := hi.w; omega)
  have e5 : IntKind.i64.wrap r.m = r.m := IntWalk.i64_in _ (by have := hi.m; omega)
  have e6 : IntKind.i64.wrap r.y = r.y := IntWalk.i64_in _ (by have := hi.y; omega)
  clear hi
  go_enter Tryd.func10, Tryd.ntmps10
  go_wp2_with fail
  go_ret
  exact ⟨_, rfl, by simp, Blk.new_at _ _ _ (by simp), ((Mod.refl no w).alloc _).alloc _⟩
end Go.Proofs.YtoncjoelkenjnaaDoor.KR
