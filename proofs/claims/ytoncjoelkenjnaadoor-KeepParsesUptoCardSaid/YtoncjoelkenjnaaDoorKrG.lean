/- The document's Parse, walked (printed by keepparse3.py). -/
import Derived.Test.YtoncjoelkenjnaaDoorKrF
namespace Go.Proofs.YtoncjoelkenjnaaDoor.KR
open Go.RowKit Mem HD
set_option linter.unusedVariables false
set_option linter.unusedSimpArgs false

/-- The word that is being read. -/
def cur (l : List UInt8) (f i : Nat) : List UInt8 := (l.drop f).take (i - f)
theorem cur_ext {l : List UInt8} {f i : Nat} (hf : f ≤ i) (hi : i ≤ l.length) : (sv l).extract f i = sv (cur l f i) := by
  apply congrArg (ByteArray.mk)
  simp [sv, cur]
theorem cur_next {l : List UInt8} {f i : Nat} (hf : f ≤ i) (hi : i < l.length) : cur l f (i + 1) = cur l f i ++ [l[i]] := by
  unfold cur
  rw [show i + 1 - f = (i - f) + 1 by omega, List.take_succ_eq_append_getElem (by rw [List.length_drop]; omega)]
  congr 2
  rw [List.getElem_drop]
  congr 1
  omega
theorem cur_self (l : List UInt8) (i : Nat) : cur l i i = [] := by simp [cur]
theorem drop_ext {l : List UInt8} {f : Nat} (hf : f ≤ l.length) : (sv l).extract f l.length = sv (l.drop f) := by
  rw [cur_ext hf (Nat.le_refl _)]
  unfold cur
  rw [List.take_of_length_le (by rw [List.length_drop]; omega)]
def sm (n : Int) : Int := if n ≤ 32767 then w16 n else 0
theorem sm_in (n : Int) : I16 (sm n) := by
  unfold sm
  split
  · exact w16_in n
  · decide
theorem setR_in {q : Rule} (h : q.In) {f : Bytes} {n : Int} (hn : I64 n) : (setR f n q).In := by
  have h1 := h.l; have h2 := h.h; have h3 := h.d; have h4 := h.w; have h5 := h.m; have h6 := h.y; have h7 := h.x
  have hw := sm_in n
  show (if f = wLast then { q with l := sm n } else if f = wHours then { q with h := sm n } else if f = wDays then { q with d := sm n } else
    if f = wWeeks then { q with w := sm n } else if f = wMonths then { q with m := sm n } else if f = wYears then { q with y := sm n } else if f = wWithin then { q with x := n } else q).In
  generalize sm n = s at hw ⊢
  repeat' split
  all_goals first | exact h | (constructor <;> assumption)
theorem setR_0 (n : Int) (q : Rule) : Rc (setR wLast n q) = (Rc q).setIfInBounds 0 (.int .i16 (sm n)) := by
  unfold setR
  simp only
  rw [if_pos True.intro]
  rfl
theorem setR_1 (n : Int) (q : Rule) : Rc (setR wHours n q) = (Rc q).setIfInBounds 1 (.int .i16 (sm n)) := by
  unfold setR
  simp only
  rw [if_neg (show ¬ wHours = wLast by decide)]
  rw [if_pos True.intro]
  rfl
theorem setR_2 (n : Int) (q : Rule) : Rc (setR wDays n q) = (Rc q).setIfInBounds 2 (.int .i16 (sm n)) := by
  unfold setR
  simp only
  rw [if_neg (show ¬ wDays = wLast by decide)]
  rw [if_neg (show ¬ wDays = wHours by decide)]
  rw [if_pos True.intro]
  rfl
theorem setR_3 (n : Int) (q : Rule) : Rc (setR wWeeks n q) = (Rc q).setIfInBounds 3 (.int .i16 (sm n)) := by
  unfold setR
  simp only
  rw [if_neg (show ¬ wWeeks = wLast by decide)]
  rw [if_neg (show ¬ wWeeks = wHours by decide)]
  rw [if_neg (show ¬ wWeeks = wDays by decide)]
  rw [if_pos True.intro]
  rfl
theorem setR_4 (n : Int) (q : Rule) : Rc (setR wMonths n q) = (Rc q).setIfInBounds 4 (.int .i16 (sm n)) := by
  unfold setR
  simp only
  rw [if_neg (show ¬ wMonths = wLast by decide)]
  rw [if_neg (show ¬ wMonths = wHours by decide)]
  rw [if_neg (show ¬ wMonths = wDays by decide)]
  rw [if_neg (show ¬ wMonths = wWeeks by decide)]
  rw [if_pos True.intro]
  rfl
theorem setR_5 (n : Int) (q : Rule) : Rc (setR wYears n q) = (Rc q).setIfInBounds 5 (.int .i16 (sm n)) := by
  unfold setR
  simp only
  rw [if_neg (show ¬ wYears = wLast by decide)]
  rw [if_neg (show ¬ wYears = wHours by decide)]
  rw [if_neg (show ¬ wYears = wDays by decide)]
  rw [if_neg (show ¬ wYears = wWeeks by decide)]
  rw [if_neg (show ¬ wYears = wMonths by decide)]
  rw [if_pos True.intro]
  rfl
theorem setR_6 (n : Int) (q : Rule) : Rc (setR wWithin n q) = (Rc q).setIfInBounds 6 (.int .i64 n) := by
  unfold setR
  simp only
  rw [if_neg (show ¬ wWithin = wLast by decide)]
  rw [if_neg (show ¬ wWithin = wHours by decide)]
  rw [if_neg (show ¬ wWithin = wDays by decide)]
  rw [if_neg (show ¬ wWithin = wWeeks by decide)]
  rw [if_neg (show ¬ wWithin = wMonths by decide)]
  rw [if_neg (show ¬ wWithin = wYears by decide)]
  rw [if_pos True.intro]
  rfl
theorem setR_7 {f : Bytes} (n : Int) (q : Rule) (h0 : ¬ f = wLast) (h1 : ¬ f = wHours) (h2 : ¬ f = wDays) (h3 : ¬ f = wWeeks) (h4 : ¬ f = wMonths) (h5 : ¬ f = wYears) (h6 : ¬ f = wWithin) : setR f n q = q := by
  unfold setR
  simp only
  rw [if_neg h0, if_neg h1, if_neg h2, if_neg h3, if_neg h4, if_neg h5, if_neg h6]
/-- What stands at the head of a round of the document's Parse. -/
def GI (w : World) (l : Bytes) (v5 v6 : Value) (wr : World) : Prop := ∃ (i f : Nat) (q : Rule), i ≤ l.length ∧ f ≤ i ∧ v6 = .int .i64 (i : Int) ∧ v5 = .int .i64 (f : Int) ∧ q.In ∧ refGo (cur l f i) (l.drop i) q = refGo [] l Rule.zero ∧
  Blk wr w.heap.size 24 #[.int .i16 0, .int .i16 0, .int .i16 0, .int .i16 0, .int .i16 0, .int .i16 0, .int .i64 0] ∧ Blk wr (w.heap.size + 1) 24 (Rc q) ∧ Mod no w wr
theorem measR {L i : Nat} (h : i < L) {v : Int} (hv : v = (i : Int) + 1) : L + 1 - (intOf (.int .i64 v)).toNat < L + 1 - (intOf (.int .i64 (i : Int))).toNat := by
  subst hv
  simp only [intOf]
  omega
theorem other_ref {l : Bytes} {q : Rule} (hp : refGo [] l Rule.zero = q) (h : ¬ (q.right ∧ q.text = l)) : Answer l Rule.zero 280 := .inr ⟨rfl, rfl, fun q' hi hr ht => by
  rw [← ht, refGo_text hi hr] at hp
  exact h (by subst hp; exact ⟨hr, ht⟩)⟩
set_option maxRecDepth 100000 in
set_option maxHeartbeats 8000000 in
theorem parse_r {w : World} {l : Bytes} (hl : l.length ≤ 1048600) : Calls Tryd.prog 8 #[.string (sv l)] w fun e w' => PE w l e w' := by
  have hsz := sv_size l
  have HL := Lib.hid hl
  have B0 := Blk.new w 24 #[.int .i16 0, .int .i16 0, .int .i16 0, .int .i16 0, .int .i16 0, .int .i16 0, .int .i64 0]
  have B1 := Blk.new_at (n := w.heap.size + 1) (w.alloc (.cells #[.int .i16 0, .int .i16 0, .int .i16 0, .int .i16 0, .int .i16 0, .int .i16 0, .int .i64 0] 24)) 24 #[.int .i16 0, .int .i16 0, .int .i16 0, .int .i16 0, .int .i16 0, .int .i16 0, .int .i64 0] (by simp)
  have HB := Lib.hid (show GI w l (.int .i64 0) (.int .i64 0) ((w.alloc (.cells #[.int .i16 0, .int .i16 0, .int .i16 0, .int .i16 0, .int .i16 0, .int .i16 0, .int .i64 0] 24)).alloc (.cells #[.int .i16 0, .int .i16 0, .int .i16 0, .int .i16 0, .int .i16 0, .int .i16 0, .int .i64 0] 24)) from
    ⟨0, 0, Rule.zero, Nat.zero_le _, Nat.le_refl _, rfl, rfl, zero_in, rfl, B0.alloc _, B1, ((Mod.refl no w).alloc _).alloc _⟩)
  clear hl B0 B1
  go_enter Tryd.func8, Tryd.ntmps8
  go_wp2_with fail
  go_loopw [5, 6] (fun (v5 v6 : Value) (wr : World) => GI w l v5 v6 wr) (fun _ v6 _ => l.length + 1 - (intOf v6).toNat)
  case atStart => exact HB.out
  case round =>
    obtain ⟨i, f, q, hi, hfi, rfl, rfl, hq, hgo, hb0, hb1, hM⟩ := hrel
    have hll := HL.out
    have HQ := Lib.hid hq
    have HG := Lib.hid hgo
    have H0 := Lib.hid hb0
    have H1 := Lib.hid hb1
    have HMr := Lib.hid hM
    have hs1 := hb1.lt
    clear hq hgo hb0 hb1 hM HB
    have hj : (i : Int) ≤ (l.length : Int) := by omega
    have hw1 : wrap64 ((i : Int) + 1) = (i : Int) + 1 := IntWalk.wrap64_in _ (by omega)
    have hex := cur_ext hfi hi
    by_cases hlt : i < l.length
    · have hsk : i < (sv l).size := by rw [hsz]; exact hlt
      have hj2 : (i : Int) < (l.length : Int) := by omega
      have HK := Lib.hid hlt
      by_cases h32 : l[i] = 32
      · have q1 : ((((sv l)[i]'hsk).toNat : Nat) : Int) = 32 := by
          have : (sv l)[i]'hsk = l[i] := rfl
          rw [this, h32]; rfl
        have q2 : (((((sv l)[i]'hsk).toNat : Nat) : Int) != 32) = false := by rw [q1]; rfl
        have hfj : (f : Int) ≤ (i : Int) := by omega
        have hi1 : ¬ (l.length : Int) < (i : Int) + 1 := by omega
        have hi1' : (i : Int) + 1 ≤ (l.length : Int) := by omega
        have hed := drop_ext (l := l) (f := i + 1) (by omega)
        obtain ⟨X, hX⟩ : ∃ X, X = cur l f i := ⟨_, rfl⟩
        obtain ⟨n, hn⟩ : ∃ n, n = numGo 0 (l.drop (i + 1)) := ⟨_, rfl⟩
        have HE := Lib.hid (show refGo [] (l.drop (i + 1)) (setR X n q) = refGo [] l Rule.zero by
          have hd : l.drop i = 32 :: l.drop (i + 1) := (List.drop_eq_getElem_cons hlt).trans (congrArg (· :: l.drop (i + 1)) h32)
          rw [← HG.out, hd, refGo, if_pos rfl, hX, hn])
        have HN := Lib.hid ((number_r (w := wr) (l := l.drop (i + 1)) (by rw [List.length_drop]; omega)).mono (fun e w' (h : _ ∧ _) => show (∃ k : Int, e = .returned (.tuple #[.int .i64 n, .int .i64 k])) ∧ Mod no wr w' from by rw [hn]; exact h))
        have HI := Lib.hid (show I64 n by have := num_in (l.drop (i + 1)) 0 (by decide) (by decide); rw [hn]; constructor <;> omega)
        rw [← hX] at hex
        clear hX hn h32 hlt hfi hi
        by_cases c0 : X = wLast
        · have g0 : (sv X).toList = [108, 97, 115, 116] := by rw [sv_list]; exact c0
          have e0 : ((sv X).toList == [108, 97, 115, 116]) = true := by rw [sv_list, c0]; rfl
          have HC := Lib.hid (show Rc (setR X n q) = (Rc q).setIfInBounds 0 (.int .i16 (sm n)) by rw [c0]; exact setR_0 n q)
          clear c0
          by_cases hsm : n ≤ 32767
          · have HS := Lib.hid (show sm n = IntKind.i16.wrap n from if_pos hsm)
            go_wp2_with (go_at_call 17; refine HN.out.mono ?_; rintro e w4 ⟨⟨kk, rfl⟩, m4⟩; have M4 := Lib.hid (HMr.out.and_then m4); have G0 := Lib.hid (H0.out.mod m4 (fun c => c)); have G1 := Lib.hid (H1.out.mod m4 (fun c => c)); have G2 := m4.size; clear m4; have d0 := G1.out.cell 0; have r0 := G1.out.free 0)
            go_roundw
            case rel =>
              refine ⟨i + 1, i + 1, setR X n q, by have := HK.out; omega, Nat.le_refl _, by go_num, by go_num, setR_in HQ.out HI.out, by rw [cur_self]; exact HE.out, G0.out.far (by simp) _, ?_, M4.out.set (p := ⟨w.heap.size + 1, 0, none⟩) (fun h => absurd h (by simp)) _⟩
              rw [HC.out, HS.out]
              exact G1.out.put 0 _
            case measure => first | exact measR HK.out rfl | exact measR HK.out hw1
          · have HS := Lib.hid (show sm n = 0 from if_neg hsm)
            go_wp2_with (go_at_call 17; refine HN.out.mono ?_; rintro e w4 ⟨⟨kk, rfl⟩, m4⟩; have M4 := Lib.hid (HMr.out.and_then m4); have G0 := Lib.hid (H0.out.mod m4 (fun c => c)); have G1 := Lib.hid (H1.out.mod m4 (fun c => c)); have G2 := m4.size; clear m4; have d0 := G1.out.cell 0; have r0 := G1.out.free 0)
            go_roundw
            case rel =>
              refine ⟨i + 1, i + 1, setR X n q, by have := HK.out; omega, Nat.le_refl _, by go_num, by go_num, setR_in HQ.out HI.out, by rw [cur_self]; exact HE.out, G0.out.far (by simp) _, ?_, M4.out.set (p := ⟨w.heap.size + 1, 0, none⟩) (fun h => absurd h (by simp)) _⟩
              rw [HC.out, HS.out]
              exact G1.out.put 0 _
            case measure => first | exact measR HK.out rfl | exact measR HK.out hw1
        by_cases c1 : X = wHours
        · have g0 : ¬ (sv X).toList = [108, 97, 115, 116] := by rw [sv_list]; exact c0
          have e0 : ((sv X).toList == [108, 97, 115, 116]) = false := by rw [sv_list]; exact beq_eq_false_iff_ne.2 c0
          have g1 : (sv X).toList = [104, 111, 117, 114, 115] := by rw [sv_list]; exact c1
          have e1 : ((sv X).toList == [104, 111, 117, 114, 115]) = true := by rw [sv_list, c1]; rfl
          have HC := Lib.hid (show Rc (setR X n q) = (Rc q).setIfInBounds 1 (.int .i16 (sm n)) by rw [c1]; exact setR_1 n q)
          clear c0 c1
          by_cases hsm : n ≤ 32767
          · have HS := Lib.hid (show sm n = IntKind.i16.wrap n from if_pos hsm)
            go_wp2_with (go_at_call 17; refine HN.out.mono ?_; rintro e w4 ⟨⟨kk, rfl⟩, m4⟩; have M4 := Lib.hid (HMr.out.and_then m4); have G0 := Lib.hid (H0.out.mod m4 (fun c => c)); have G1 := Lib.hid (H1.out.mod m4 (fun c => c)); have G2 := m4.size; clear m4; have d0 := G1.out.cell 1; have r0 := G1.out.free 1)
            go_roundw
            case rel =>
              refine ⟨i + 1, i + 1, setR X n q, by have := HK.out; omega, Nat.le_refl _, by go_num, by go_num, setR_in HQ.out HI.out, by rw [cur_self]; exact HE.out, G0.out.far (by simp) _, ?_, M4.out.set (p := ⟨w.heap.size + 1, 1, none⟩) (fun h => absurd h (by simp)) _⟩
              rw [HC.out, HS.out]
              exact G1.out.put 1 _
            case measure => first | exact measR HK.out rfl | exact measR HK.out hw1
          · have HS := Lib.hid (show sm n = 0 from if_neg hsm)
            go_wp2_with (go_at_call 17; refine HN.out.mono ?_; rintro e w4 ⟨⟨kk, rfl⟩, m4⟩; have M4 := Lib.hid (HMr.out.and_then m4); have G0 := Lib.hid (H0.out.mod m4 (fun c => c)); have G1 := Lib.hid (H1.out.mod m4 (fun c => c)); have G2 := m4.size; clear m4; have d0 := G1.out.cell 1; have r0 := G1.out.free 1)
            go_roundw
            case rel =>
              refine ⟨i + 1, i + 1, setR X n q, by have := HK.out; omega, Nat.le_refl _, by go_num, by go_num, setR_in HQ.out HI.out, by rw [cur_self]; exact HE.out, G0.out.far (by simp) _, ?_, M4.out.set (p := ⟨w.heap.size + 1, 1, none⟩) (fun h => absurd h (by simp)) _⟩
              rw [HC.out, HS.out]
              exact G1.out.put 1 _
            case measure => first | exact measR HK.out rfl | exact measR HK.out hw1
        by_cases c2 : X = wDays
        · have g0 : ¬ (sv X).toList = [108, 97, 115, 116] := by rw [sv_list]; exact c0
          have e0 : ((sv X).toList == [108, 97, 115, 116]) = false := by rw [sv_list]; exact beq_eq_false_iff_ne.2 c0
          have g1 : ¬ (sv X).toList = [104, 111, 117, 114, 115] := by rw [sv_list]; exact c1
          have e1 : ((sv X).toList == [104, 111, 117, 114, 115]) = false := by rw [sv_list]; exact beq_eq_false_iff_ne.2 c1
          have g2 : (sv X).toList = [100, 97, 121, 115] := by rw [sv_list]; exact c2
          have e2 : ((sv X).toList == [100, 97, 121, 115]) = true := by rw [sv_list, c2]; rfl
          have HC := Lib.hid (show Rc (setR X n q) = (Rc q).setIfInBounds 2 (.int .i16 (sm n)) by rw [c2]; exact setR_2 n q)
          clear c0 c1 c2
          by_cases hsm : n ≤ 32767
          · have HS := Lib.hid (show sm n = IntKind.i16.wrap n from if_pos hsm)
            go_wp2_with (go_at_call 17; refine HN.out.mono ?_; rintro e w4 ⟨⟨kk, rfl⟩, m4⟩; have M4 := Lib.hid (HMr.out.and_then m4); have G0 := Lib.hid (H0.out.mod m4 (fun c => c)); have G1 := Lib.hid (H1.out.mod m4 (fun c => c)); have G2 := m4.size; clear m4; have d0 := G1.out.cell 2; have r0 := G1.out.free 2)
            go_roundw
            case rel =>
              refine ⟨i + 1, i + 1, setR X n q, by have := HK.out; omega, Nat.le_refl _, by go_num, by go_num, setR_in HQ.out HI.out, by rw [cur_self]; exact HE.out, G0.out.far (by simp) _, ?_, M4.out.set (p := ⟨w.heap.size + 1, 2, none⟩) (fun h => absurd h (by simp)) _⟩
              rw [HC.out, HS.out]
              exact G1.out.put 2 _
            case measure => first | exact measR HK.out rfl | exact measR HK.out hw1
          · have HS := Lib.hid (show sm n = 0 from if_neg hsm)
            go_wp2_with (go_at_call 17; refine HN.out.mono ?_; rintro e w4 ⟨⟨kk, rfl⟩, m4⟩; have M4 := Lib.hid (HMr.out.and_then m4); have G0 := Lib.hid (H0.out.mod m4 (fun c => c)); have G1 := Lib.hid (H1.out.mod m4 (fun c => c)); have G2 := m4.size; clear m4; have d0 := G1.out.cell 2; have r0 := G1.out.free 2)
            go_roundw
            case rel =>
              refine ⟨i + 1, i + 1, setR X n q, by have := HK.out; omega, Nat.le_refl _, by go_num, by go_num, setR_in HQ.out HI.out, by rw [cur_self]; exact HE.out, G0.out.far (by simp) _, ?_, M4.out.set (p := ⟨w.heap.size + 1, 2, none⟩) (fun h => absurd h (by simp)) _⟩
              rw [HC.out, HS.out]
              exact G1.out.put 2 _
            case measure => first | exact measR HK.out rfl | exact measR HK.out hw1
        by_cases c3 : X = wWeeks
        · have g0 : ¬ (sv X).toList = [108, 97, 115, 116] := by rw [sv_list]; exact c0
          have e0 : ((sv X).toList == [108, 97, 115, 116]) = false := by rw [sv_list]; exact beq_eq_false_iff_ne.2 c0
          have g1 : ¬ (sv X).toList = [104, 111, 117, 114, 115] := by rw [sv_list]; exact c1
          have e1 : ((sv X).toList == [104, 111, 117, 114, 115]) = false := by rw [sv_list]; exact beq_eq_false_iff_ne.2 c1
          have g2 : ¬ (sv X).toList = [100, 97, 121, 115] := by rw [sv_list]; exact c2
          have e2 : ((sv X).toList == [100, 97, 121, 115]) = false := by rw [sv_list]; exact beq_eq_false_iff_ne.2 c2
          have g3 : (sv X).toList = [119, 101, 101, 107, 115] := by rw [sv_list]; exact c3
          have e3 : ((sv X).toList == [119, 101, 101, 107, 115]) = true := by rw [sv_list, c3]; rfl
          have HC := Lib.hid (show Rc (setR X n q) = (Rc q).setIfInBounds 3 (.int .i16 (sm n)) by rw [c3]; exact setR_3 n q)
          clear c0 c1 c2 c3
          by_cases hsm : n ≤ 32767
          · have HS := Lib.hid (show sm n = IntKind.i16.wrap n from if_pos hsm)
            go_wp2_with (go_at_call 17; refine HN.out.mono ?_; rintro e w4 ⟨⟨kk, rfl⟩, m4⟩; have M4 := Lib.hid (HMr.out.and_then m4); have G0 := Lib.hid (H0.out.mod m4 (fun c => c)); have G1 := Lib.hid (H1.out.mod m4 (fun c => c)); have G2 := m4.size; clear m4; have d0 := G1.out.cell 3; have r0 := G1.out.free 3)
            go_roundw
            case rel =>
              refine ⟨i + 1, i + 1, setR X n q, by have := HK.out; omega, Nat.le_refl _, by go_num, by go_num, setR_in HQ.out HI.out, by rw [cur_self]; exact HE.out, G0.out.far (by simp) _, ?_, M4.out.set (p := ⟨w.heap.size + 1, 3, none⟩) (fun h => absurd h (by simp)) _⟩
              rw [HC.out, HS.out]
              exact G1.out.put 3 _
            case measure => first | exact measR HK.out rfl | exact measR HK.out hw1
          · have HS := Lib.hid (show sm n = 0 from if_neg hsm)
            go_wp2_with (go_at_call 17; refine HN.out.mono ?_; rintro e w4 ⟨⟨kk, rfl⟩, m4⟩; have M4 := Lib.hid (HMr.out.and_then m4); have G0 := Lib.hid (H0.out.mod m4 (fun c => c)); have G1 := Lib.hid (H1.out.mod m4 (fun c => c)); have G2 := m4.size; clear m4; have d0 := G1.out.cell 3; have r0 := G1.out.free 3)
            go_roundw
            case rel =>
              refine ⟨i + 1, i + 1, setR X n q, by have := HK.out; omega, Nat.le_refl _, by go_num, by go_num, setR_in HQ.out HI.out, by rw [cur_self]; exact HE.out, G0.out.far (by simp) _, ?_, M4.out.set (p := ⟨w.heap.size + 1, 3, none⟩) (fun h => absurd h (by simp)) _⟩
              rw [HC.out, HS.out]
              exact G1.out.put 3 _
            case measure => first | exact measR HK.out rfl | exact measR HK.out hw1
        by_cases c4 : X = wMonths
        · have g0 : ¬ (sv X).toList = [108, 97, 115, 116] := by rw [sv_list]; exact c0
          have e0 : ((sv X).toList == [108, 97, 115, 116]) = false := by rw [sv_list]; exact beq_eq_false_iff_ne.2 c0
          have g1 : ¬ (sv X).toList = [104, 111, 117, 114, 115] := by rw [sv_list]; exact c1
          have e1 : ((sv X).toList == [104, 111, 117, 114, 115]) = false := by rw [sv_list]; exact beq_eq_false_iff_ne.2 c1
          have g2 : ¬ (sv X).toList = [100, 97, 121, 115] := by rw [sv_list]; exact c2
          have e2 : ((sv X).toList == [100, 97, 121, 115]) = false := by rw [sv_list]; exact beq_eq_false_iff_ne.2 c2
          have g3 : ¬ (sv X).toList = [119, 101, 101, 107, 115] := by rw [sv_list]; exact c3
          have e3 : ((sv X).toList == [119, 101, 101, 107, 115]) = false := by rw [sv_list]; exact beq_eq_false_iff_ne.2 c3
          have g4 : (sv X).toList = [109, 111, 110, 116, 104, 115] := by rw [sv_list]; exact c4
          have e4 : ((sv X).toList == [109, 111, 110, 116, 104, 115]) = true := by rw [sv_list, c4]; rfl
          have HC := Lib.hid (show Rc (setR X n q) = (Rc q).setIfInBounds 4 (.int .i16 (sm n)) by rw [c4]; exact setR_4 n q)
          clear c0 c1 c2 c3 c4
          by_cases hsm : n ≤ 32767
          · have HS := Lib.hid (show sm n = IntKind.i16.wrap n from if_pos hsm)
            go_wp2_with (go_at_call 17; refine HN.out.mono ?_; rintro e w4 ⟨⟨kk, rfl⟩, m4⟩; have M4 := Lib.hid (HMr.out.and_then m4); have G0 := Lib.hid (H0.out.mod m4 (fun c => c)); have G1 := Lib.hid (H1.out.mod m4 (fun c => c)); have G2 := m4.size; clear m4; have d0 := G1.out.cell 4; have r0 := G1.out.free 4)
            go_roundw
            case rel =>
              refine ⟨i + 1, i + 1, setR X n q, by have := HK.out; omega, Nat.le_refl _, by go_num, by go_num, setR_in HQ.out HI.out, by rw [cur_self]; exact HE.out, G0.out.far (by simp) _, ?_, M4.out.set (p := ⟨w.heap.size + 1, 4, none⟩) (fun h => absurd h (by simp)) _⟩
              rw [HC.out, HS.out]
              exact G1.out.put 4 _
            case measure => first | exact measR HK.out rfl | exact measR HK.out hw1
          · have HS := Lib.hid (show sm n = 0 from if_neg hsm)
            go_wp2_with (go_at_call 17; refine HN.out.mono ?_; rintro e w4 ⟨⟨kk, rfl⟩, m4⟩; have M4 := Lib.hid (HMr.out.and_then m4); have G0 := Lib.hid (H0.out.mod m4 (fun c => c)); have G1 := Lib.hid (H1.out.mod m4 (fun c => c)); have G2 := m4.size; clear m4; have d0 := G1.out.cell 4; have r0 := G1.out.free 4)
            go_roundw
            case rel =>
              refine ⟨i + 1, i + 1, setR X n q, by have := HK.out; omega, Nat.le_refl _, by go_num, by go_num, setR_in HQ.out HI.out, by rw [cur_self]; exact HE.out, G0.out.far (by simp) _, ?_, M4.out.set (p := ⟨w.heap.size + 1, 4, none⟩) (fun h => absurd h (by simp)) _⟩
              rw [HC.out, HS.out]
              exact G1.out.put 4 _
            case measure => first | exact measR HK.out rfl | exact measR HK.out hw1
        by_cases c5 : X = wYears
        · have g0 : ¬ (sv X).toList = [108, 97, 115, 116] := by rw [sv_list]; exact c0
          have e0 : ((sv X).toList == [108, 97, 115, 116]) = false := by rw [sv_list]; exact beq_eq_false_iff_ne.2 c0
          have g1 : ¬ (sv X).toList = [104, 111, 117, 114, 115] := by rw [sv_list]; exact c1
          have e1 : ((sv X).toList == [104, 111, 117, 114, 115]) = false := by rw [sv_list]; exact beq_eq_false_iff_ne.2 c1
          have g2 : ¬ (sv X).toList = [100, 97, 121, 115] := by rw [sv_list]; exact c2
          have e2 : ((sv X).toList == [100, 97, 121, 115]) = false := by rw [sv_list]; exact beq_eq_false_iff_ne.2 c2
          have g3 : ¬ (sv X).toList = [119, 101, 101, 107, 115] := by rw [sv_list]; exact c3
          have e3 : ((sv X).toList == [119, 101, 101, 107, 115]) = false := by rw [sv_list]; exact beq_eq_false_iff_ne.2 c3
          have g4 : ¬ (sv X).toList = [109, 111, 110, 116, 104, 115] := by rw [sv_list]; exact c4
          have e4 : ((sv X).toList == [109, 111, 110, 116, 104, 115]) = false := by rw [sv_list]; exact beq_eq_false_iff_ne.2 c4
          have g5 : (sv X).toList = [121, 101, 97, 114, 115] := by rw [sv_list]; exact c5
          have e5 : ((sv X).toList == [121, 101, 97, 114, 115]) = true := by rw [sv_list, c5]; rfl
          have HC := Lib.hid (show Rc (setR X n q) = (Rc q).setIfInBounds 5 (.int .i16 (sm n)) by rw [c5]; exact setR_5 n q)
          clear c0 c1 c2 c3 c4 c5
          by_cases hsm : n ≤ 32767
          · have HS := Lib.hid (show sm n = IntKind.i16.wrap n from if_pos hsm)
            go_wp2_with (go_at_call 17; refine HN.out.mono ?_; rintro e w4 ⟨⟨kk, rfl⟩, m4⟩; have M4 := Lib.hid (HMr.out.and_then m4); have G0 := Lib.hid (H0.out.mod m4 (fun c => c)); have G1 := Lib.hid (H1.out.mod m4 (fun c => c)); have G2 := m4.size; clear m4; have d0 := G1.out.cell 5; have r0 := G1.out.free 5)
            go_roundw
            case rel =>
              refine ⟨i + 1, i + 1, setR X n q, by have := HK.out; omega, Nat.le_refl _, by go_num, by go_num, setR_in HQ.out HI.out, by rw [cur_self]; exact HE.out, G0.out.far (by simp) _, ?_, M4.out.set (p := ⟨w.heap.size + 1, 5, none⟩) (fun h => absurd h (by simp)) _⟩
              rw [HC.out, HS.out]
              exact G1.out.put 5 _
            case measure => first | exact measR HK.out rfl | exact measR HK.out hw1
          · have HS := Lib.hid (show sm n = 0 from if_neg hsm)
            go_wp2_with (go_at_call 17; refine HN.out.mono ?_; rintro e w4 ⟨⟨kk, rfl⟩, m4⟩; have M4 := Lib.hid (HMr.out.and_then m4); have G0 := Lib.hid (H0.out.mod m4 (fun c => c)); have G1 := Lib.hid (H1.out.mod m4 (fun c => c)); have G2 := m4.size; clear m4; have d0 := G1.out.cell 5; have r0 := G1.out.free 5)
            go_roundw
            case rel =>
              refine ⟨i + 1, i + 1, setR X n q, by have := HK.out; omega, Nat.le_refl _, by go_num, by go_num, setR_in HQ.out HI.out, by rw [cur_self]; exact HE.out, G0.out.far (by simp) _, ?_, M4.out.set (p := ⟨w.heap.size + 1, 5, none⟩) (fun h => absurd h (by simp)) _⟩
              rw [HC.out, HS.out]
              exact G1.out.put 5 _
            case measure => first | exact measR HK.out rfl | exact measR HK.out hw1
        by_cases c6 : X = wWithin
        · have g0 : ¬ (sv X).toList = [108, 97, 115, 116] := by rw [sv_list]; exact c0
          have e0 : ((sv X).toList == [108, 97, 115, 116]) = false := by rw [sv_list]; exact beq_eq_false_iff_ne.2 c0
          have g1 : ¬ (sv X).toList = [104, 111, 117, 114, 115] := by rw [sv_list]; exact c1
          have e1 : ((sv X).toList == [104, 111, 117, 114, 115]) = false := by rw [sv_list]; exact beq_eq_false_iff_ne.2 c1
          have g2 : ¬ (sv X).toList = [100, 97, 121, 115] := by rw [sv_list]; exact c2
          have e2 : ((sv X).toList == [100, 97, 121, 115]) = false := by rw [sv_list]; exact beq_eq_false_iff_ne.2 c2
          have g3 : ¬ (sv X).toList = [119, 101, 101, 107, 115] := by rw [sv_list]; exact c3
          have e3 : ((sv X).toList == [119, 101, 101, 107, 115]) = false := by rw [sv_list]; exact beq_eq_false_iff_ne.2 c3
          have g4 : ¬ (sv X).toList = [109, 111, 110, 116, 104, 115] := by rw [sv_list]; exact c4
          have e4 : ((sv X).toList == [109, 111, 110, 116, 104, 115]) = false := by rw [sv_list]; exact beq_eq_false_iff_ne.2 c4
          have g5 : ¬ (sv X).toList = [121, 101, 97, 114, 115] := by rw [sv_list]; exact c5
          have e5 : ((sv X).toList == [121, 101, 97, 114, 115]) = false := by rw [sv_list]; exact beq_eq_false_iff_ne.2 c5
          have g6 : (sv X).toList = [119, 105, 116, 104, 105, 110] := by rw [sv_list]; exact c6
          have e6 : ((sv X).toList == [119, 105, 116, 104, 105, 110]) = true := by rw [sv_list, c6]; rfl
          have HC := Lib.hid (show Rc (setR X n q) = (Rc q).setIfInBounds 6 (.int .i64 n) by rw [c6]; exact setR_6 n q)
          clear c0 c1 c2 c3 c4 c5 c6
          by_cases hsm : n ≤ 32767
          · have HS := Lib.hid (show sm n = IntKind.i16.wrap n from if_pos hsm)
            go_wp2_with (go_at_call 17; refine HN.out.mono ?_; rintro e w4 ⟨⟨kk, rfl⟩, m4⟩; have M4 := Lib.hid (HMr.out.and_then m4); have G0 := Lib.hid (H0.out.mod m4 (fun c => c)); have G1 := Lib.hid (H1.out.mod m4 (fun c => c)); have G2 := m4.size; clear m4; have d0 := G1.out.cell 6; have r0 := G1.out.free 6)
            go_roundw
            case rel =>
              refine ⟨i + 1, i + 1, setR X n q, by have := HK.out; omega, Nat.le_refl _, by go_num, by go_num, setR_in HQ.out HI.out, by rw [cur_self]; exact HE.out, G0.out.far (by simp) _, ?_, M4.out.set (p := ⟨w.heap.size + 1, 6, none⟩) (fun h => absurd h (by simp)) _⟩
              rw [HC.out]
              exact G1.out.put 6 _
            case measure => first | exact measR HK.out rfl | exact measR HK.out hw1
          · have HS := Lib.hid (show sm n = 0 from if_neg hsm)
            go_wp2_with (go_at_call 17; refine HN.out.mono ?_; rintro e w4 ⟨⟨kk, rfl⟩, m4⟩; have M4 := Lib.hid (HMr.out.and_then m4); have G0 := Lib.hid (H0.out.mod m4 (fun c => c)); have G1 := Lib.hid (H1.out.mod m4 (fun c => c)); have G2 := m4.size; clear m4; have d0 := G1.out.cell 6; have r0 := G1.out.free 6)
            go_roundw
            case rel =>
              refine ⟨i + 1, i + 1, setR X n q, by have := HK.out; omega, Nat.le_refl _, by go_num, by go_num, setR_in HQ.out HI.out, by rw [cur_self]; exact HE.out, G0.out.far (by simp) _, ?_, M4.out.set (p := ⟨w.heap.size + 1, 6, none⟩) (fun h => absurd h (by simp)) _⟩
              rw [HC.out]
              exact G1.out.put 6 _
            case measure => first | exact measR HK.out rfl | exact measR HK.out hw1
        have g0 : ¬ (sv X).toList = [108, 97, 115, 116] := by rw [sv_list]; exact c0
        have e0 : ((sv X).toList == [108, 97, 115, 116]) = false := by rw [sv_list]; exact beq_eq_false_iff_ne.2 c0
        have g1 : ¬ (sv X).toList = [104, 111, 117, 114, 115] := by rw [sv_list]; exact c1
        have e1 : ((sv X).toList == [104, 111, 117, 114, 115]) = false := by rw [sv_list]; exact beq_eq_false_iff_ne.2 c1
        have g2 : ¬ (sv X).toList = [100, 97, 121, 115] := by rw [sv_list]; exact c2
        have e2 : ((sv X).toList == [100, 97, 121, 115]) = false := by rw [sv_list]; exact beq_eq_false_iff_ne.2 c2
        have g3 : ¬ (sv X).toList = [119, 101, 101, 107, 115] := by rw [sv_list]; exact c3
        have e3 : ((sv X).toList == [119, 101, 101, 107, 115]) = false := by rw [sv_list]; exact beq_eq_false_iff_ne.2 c3
        have g4 : ¬ (sv X).toList = [109, 111, 110, 116, 104, 115] := by rw [sv_list]; exact c4
        have e4 : ((sv X).toList == [109, 111, 110, 116, 104, 115]) = false := by rw [sv_list]; exact beq_eq_false_iff_ne.2 c4
        have g5 : ¬ (sv X).toList = [121, 101, 97, 114, 115] := by rw [sv_list]; exact c5
        have e5 : ((sv X).toList == [121, 101, 97, 114, 115]) = false := by rw [sv_list]; exact beq_eq_false_iff_ne.2 c5
        have g6 : ¬ (sv X).toList = [119, 105, 116, 104, 105, 110] := by rw [sv_list]; exact c6
        have e6 : ((sv X).toList == [119, 105, 116, 104, 105, 110]) = false := by rw [sv_list]; exact beq_eq_false_iff_ne.2 c6
        have HC := Lib.hid (show setR X n q = q from setR_7 n q c0 c1 c2 c3 c4 c5 c6)
        clear c0 c1 c2 c3 c4 c5 c6
        by_cases hsm : n ≤ 32767
        · have HS := Lib.hid (show sm n = IntKind.i16.wrap n from if_pos hsm)
          go_wp2_with (go_at_call 17; refine HN.out.mono ?_; rintro e w4 ⟨⟨kk, rfl⟩, m4⟩; have M4 := Lib.hid (HMr.out.and_then m4); have G0 := Lib.hid (H0.out.mod m4 (fun c => c)); have G1 := Lib.hid (H1.out.mod m4 (fun c => c)); have G2 := m4.size; clear m4)
          go_roundw
          case rel =>
            refine ⟨i + 1, i + 1, setR X n q, by have := HK.out; omega, Nat.le_refl _, by go_num, by go_num, setR_in HQ.out HI.out, by rw [cur_self]; exact HE.out, G0.out, ?_, M4.out⟩
            rw [HC.out]
            exact G1.out
          case measure => first | exact measR HK.out rfl | exact measR HK.out hw1
        · have HS := Lib.hid (show sm n = 0 from if_neg hsm)
          go_wp2_with (go_at_call 17; refine HN.out.mono ?_; rintro e w4 ⟨⟨kk, rfl⟩, m4⟩; have M4 := Lib.hid (HMr.out.and_then m4); have G0 := Lib.hid (H0.out.mod m4 (fun c => c)); have G1 := Lib.hid (H1.out.mod m4 (fun c => c)); have G2 := m4.size; clear m4)
          go_roundw
          case rel =>
            refine ⟨i + 1, i + 1, setR X n q, by have := HK.out; omega, Nat.le_refl _, by go_num, by go_num, setR_in HQ.out HI.out, by rw [cur_self]; exact HE.out, G0.out, ?_, M4.out⟩
            rw [HC.out]
            exact G1.out
          case measure => first | exact measR HK.out rfl | exact measR HK.out hw1
      · have q1 : ¬ ((((sv l)[i]'hsk).toNat : Nat) : Int) = 32 := by
          have : (sv l)[i]'hsk = l[i] := rfl
          rw [this]; intro h
          exact h32 (UInt8.toNat_inj.1 (by show (l[i]).toNat = 32; omega))
        have q2 : (((((sv l)[i]'hsk).toNat : Nat) : Int) != 32) = true := by simpa using q1
        have HE := Lib.hid (show refGo (cur l f (i + 1)) (l.drop (i + 1)) q = refGo [] l Rule.zero by
          have hd : l.drop i = l[i]'hlt :: l.drop (i + 1) := List.drop_eq_getElem_cons hlt
          rw [cur_next hfi hlt, ← HG.out, hd]
          exact (show refGo (cur l f i) (l[i]'hlt :: l.drop (i + 1)) q = refGo (cur l f i ++ [l[i]'hlt]) (l.drop (i + 1)) q from by rw [refGo]; exact if_neg h32).symm)
        clear h32 hex
        go_wp2_with fail
        go_roundw
        case rel => exact ⟨i + 1, f, q, by have := HK.out; omega, by omega, by go_num, rfl, HQ.out, HE.out, H0.out, H1.out, HMr.out⟩
        case measure => first | exact measR HK.out rfl | exact measR HK.out hw1
    · have hj2 : ¬ (i : Int) < (l.length : Int) := by omega
      have hei : (i : Int) = (l.length : Int) := by omega
      have hfj : (f : Int) ≤ (i : Int) := by omega
      have hi1 : (l.length : Int) < (i : Int) + 1 := by omega
      have HP := Lib.hid (show refGo [] l Rule.zero = q by rw [← HG.out, List.drop_eq_nil_of_le (by omega)]; rfl)
      have k0 : wr.cell? ⟨w.heap.size + 1, 0, none⟩ = some (.int .i16 q.l) := H1.out.cell 0
      have k1 : wr.cell? ⟨w.heap.size + 1, 1, none⟩ = some (.int .i16 q.h) := H1.out.cell 1
      have k2 : wr.cell? ⟨w.heap.size + 1, 2, none⟩ = some (.int .i16 q.d) := H1.out.cell 2
      have k3 : wr.cell? ⟨w.heap.size + 1, 3, none⟩ = some (.int .i16 q.w) := H1.out.cell 3
      have k4 : wr.cell? ⟨w.heap.size + 1, 4, none⟩ = some (.int .i16 q.m) := H1.out.cell 4
      have k5 : wr.cell? ⟨w.heap.size + 1, 5, none⟩ = some (.int .i16 q.y) := H1.out.cell 5
      have k6 : wr.cell? ⟨w.heap.size + 1, 6, none⟩ = some (.int .i64 q.x) := H1.out.cell 6
      have hpr := print_r (w := wr) HQ.out
      clear hlt hei
      by_cases hr : q.right ∧ q.text = l
      · have HPR := Lib.hid (hpr.mono (fun e w' (h : _ ∧ _) => show e = .returned (.tuple #[.string (sv l), .int .i64 0]) ∧ Mod no wr w' from ⟨by
          rcases h.2 with ⟨_, h⟩ | ⟨h, _⟩
          · rw [h, hr.2]
          · exact absurd hr.1 h, h.1⟩))
        have HR := Lib.hid hr
        clear hr hpr
        go_wp2_with (go_at_call 6; refine HPR.out.mono ?_; rintro e w4 ⟨rfl, m4⟩; have M4 := Lib.hid (HMr.out.and_then m4); have B4 := Lib.hid (H0.out.mod m4 (fun c => c)); have R4 := Lib.hid (H1.out.mod m4 (fun c => c)); clear m4; have p0 := B4.out.cell 0; have p1 := B4.out.cell 1; have p2 := B4.out.cell 2; have p3 := B4.out.cell 3; have p4 := B4.out.cell 4; have p5 := B4.out.cell 5; have p6 := B4.out.cell 6; have f0 := B4.out.free 0; have f1 := B4.out.free 1; have f2 := B4.out.free 2; have f3 := B4.out.free 3; have f4 := B4.out.free 4; have f5 := B4.out.free 5; have f6 := B4.out.free 6; have q0 : w4.cell? ⟨w.heap.size + 1, 0, none⟩ = some (.int .i16 q.l) := R4.out.cell 0; have q1 : w4.cell? ⟨w.heap.size + 1, 1, none⟩ = some (.int .i16 q.h) := R4.out.cell 1; have q2 : w4.cell? ⟨w.heap.size + 1, 2, none⟩ = some (.int .i16 q.d) := R4.out.cell 2; have q3 : w4.cell? ⟨w.heap.size + 1, 3, none⟩ = some (.int .i16 q.w) := R4.out.cell 3; have q4 : w4.cell? ⟨w.heap.size + 1, 4, none⟩ = some (.int .i16 q.m) := R4.out.cell 4; have q5 : w4.cell? ⟨w.heap.size + 1, 5, none⟩ = some (.int .i16 q.y) := R4.out.cell 5; have q6 : w4.cell? ⟨w.heap.size + 1, 6, none⟩ = some (.int .i64 q.x) := R4.out.cell 6)
        exact bodyPost_ret (v := .tuple #[.agg #[.int .i16 q.l, .int .i16 q.h, .int .i16 q.d, .int .i16 q.w, .int .i16 q.m, .int .i16 q.y, .int .i64 q.x], .int .i64 0]) (ret_cell (p := 2) (u := 3) (ty := 24) rfl _ _ w.heap.size #[.int .i16 q.l, .int .i16 q.h, .int .i16 q.d, .int .i16 q.w, .int .i16 q.m, .int .i16 q.y, .int .i64 q.x] _ 24 rfl (put7 B4.out (.int .i16 q.l) (.int .i16 q.h) (.int .i16 q.d) (.int .i16 q.w) (.int .i16 q.m) (.int .i16 q.y) (.int .i64 q.x)) Tryd.underlying24 rfl rule_info) rfl ⟨mod7 M4.out (Nat.le_refl _) (.int .i16 q.l) (.int .i16 q.h) (.int .i16 q.d) (.int .i16 q.w) (.int .i16 q.m) (.int .i16 q.y) (.int .i64 q.x), q, 0, rfl, answer_yes HQ.out HR.out.1 HR.out.2⟩
      · have HA := Lib.hid (other_ref HP.out hr)
        by_cases hr1 : q.right
        · have hne : q.text ≠ l := fun h => hr ⟨hr1, h⟩
          generalize q.text = t at *
          have HPR := Lib.hid (hpr.mono (fun e w' (h : _ ∧ _) => show e = .returned (.tuple #[.string (sv t), .int .i64 0]) ∧ Mod no wr w' from ⟨by
            rcases h.2 with ⟨_, h⟩ | ⟨h, _⟩
            · exact h
            · exact absurd hr1 h, h.1⟩))
          have g1 : ¬ (sv t).toList = (sv l).toList := by rw [sv_list, sv_list]; exact hne
          have g2 : ((sv t).toList == (sv l).toList) = false := by rw [sv_list, sv_list]; simpa using hne
          have g3 : ((sv t).toList != (sv l).toList) = true := by rw [sv_list, sv_list]; simpa using hne
          clear hr hr1 hpr hne
          go_wp2_with (go_at_call 6; refine HPR.out.mono ?_; rintro e w4 ⟨rfl, m4⟩; have M4 := Lib.hid (HMr.out.and_then m4); have B4 := Lib.hid (H0.out.mod m4 (fun c => c)); have R4 := Lib.hid (H1.out.mod m4 (fun c => c)); clear m4; have p0 := B4.out.cell 0; have p1 := B4.out.cell 1; have p2 := B4.out.cell 2; have p3 := B4.out.cell 3; have p4 := B4.out.cell 4; have p5 := B4.out.cell 5; have p6 := B4.out.cell 6; have f0 := B4.out.free 0; have f1 := B4.out.free 1; have f2 := B4.out.free 2; have f3 := B4.out.free 3; have f4 := B4.out.free 4; have f5 := B4.out.free 5; have f6 := B4.out.free 6; have q0 : w4.cell? ⟨w.heap.size + 1, 0, none⟩ = some (.int .i16 q.l) := R4.out.cell 0; have q1 : w4.cell? ⟨w.heap.size + 1, 1, none⟩ = some (.int .i16 q.h) := R4.out.cell 1; have q2 : w4.cell? ⟨w.heap.size + 1, 2, none⟩ = some (.int .i16 q.d) := R4.out.cell 2; have q3 : w4.cell? ⟨w.heap.size + 1, 3, none⟩ = some (.int .i16 q.w) := R4.out.cell 3; have q4 : w4.cell? ⟨w.heap.size + 1, 4, none⟩ = some (.int .i16 q.m) := R4.out.cell 4; have q5 : w4.cell? ⟨w.heap.size + 1, 5, none⟩ = some (.int .i16 q.y) := R4.out.cell 5; have q6 : w4.cell? ⟨w.heap.size + 1, 6, none⟩ = some (.int .i64 q.x) := R4.out.cell 6)
          exact bodyPost_ret (v := .tuple #[.agg #[.int .i16 0, .int .i16 0, .int .i16 0, .int .i16 0, .int .i16 0, .int .i16 0, .int .i64 0], .int .i64 280]) (ret_cell (p := 2) (u := 3) (ty := 24) rfl _ _ w.heap.size #[.int .i16 0, .int .i16 0, .int .i16 0, .int .i16 0, .int .i16 0, .int .i16 0, .int .i64 0] _ 24 rfl (put7 B4.out (.int .i16 0) (.int .i16 0) (.int .i16 0) (.int .i16 0) (.int .i16 0) (.int .i16 0) (.int .i64 0)) Tryd.underlying24 rfl rule_info) rfl ⟨mod7 M4.out (Nat.le_refl _) (.int .i16 0) (.int .i16 0) (.int .i16 0) (.int .i16 0) (.int .i16 0) (.int .i16 0) (.int .i64 0), Rule.zero, 280, rfl, HA.out⟩
        · have HPR := Lib.hid (hpr.mono (fun e w' (h : _ ∧ _) => show e = .returned (.tuple #[.string (sv []), .int .i64 280]) ∧ Mod no wr w' from ⟨by
            rcases h.2 with ⟨h, _⟩ | ⟨_, h⟩
            · exact absurd h hr1
            · exact h, h.1⟩))
          clear hr hr1 hpr
          go_wp2_with (go_at_call 6; refine HPR.out.mono ?_; rintro e w4 ⟨rfl, m4⟩; have M4 := Lib.hid (HMr.out.and_then m4); have B4 := Lib.hid (H0.out.mod m4 (fun c => c)); have R4 := Lib.hid (H1.out.mod m4 (fun c => c)); clear m4; have p0 := B4.out.cell 0; have p1 := B4.out.cell 1; have p2 := B4.out.cell 2; have p3 := B4.out.cell 3; have p4 := B4.out.cell 4; have p5 := B4.out.cell 5; have p6 := B4.out.cell 6; have f0 := B4.out.free 0; have f1 := B4.out.free 1; have f2 := B4.out.free 2; have f3 := B4.out.free 3; have f4 := B4.out.free 4; have f5 := B4.out.free 5; have f6 := B4.out.free 6; have q0 : w4.cell? ⟨w.heap.size + 1, 0, none⟩ = some (.int .i16 q.l) := R4.out.cell 0; have q1 : w4.cell? ⟨w.heap.size + 1, 1, none⟩ = some (.int .i16 q.h) := R4.out.cell 1; have q2 : w4.cell? ⟨w.heap.size + 1, 2, none⟩ = some (.int .i16 q.d) := R4.out.cell 2; have q3 : w4.cell? ⟨w.heap.size + 1, 3, none⟩ = some (.int .i16 q.w) := R4.out.cell 3; have q4 : w4.cell? ⟨w.heap.size + 1, 4, none⟩ = some (.int .i16 q.m) := R4.out.cell 4; have q5 : w4.cell? ⟨w.heap.size + 1, 5, none⟩ = some (.int .i16 q.y) := R4.out.cell 5; have q6 : w4.cell? ⟨w.heap.size + 1, 6, none⟩ = some (.int .i64 q.x) := R4.out.cell 6)
          exact bodyPost_ret (v := .tuple #[.agg #[.int .i16 0, .int .i16 0, .int .i16 0, .int .i16 0, .int .i16 0, .int .i16 0, .int .i64 0], .int .i64 280]) (ret_cell (p := 2) (u := 3) (ty := 24) rfl _ _ w.heap.size #[.int .i16 0, .int .i16 0, .int .i16 0, .int .i16 0, .int .i16 0, .int .i16 0, .int .i64 0] _ 24 rfl (put7 B4.out (.int .i16 0) (.int .i16 0) (.int .i16 0) (.int .i16 0) (.int .i16 0) (.int .i16 0) (.int .i64 0)) Tryd.underlying24 rfl rule_info) rfl ⟨mod7 M4.out (Nat.le_refl _) (.int .i16 0) (.int .i16 0) (.int .i16 0) (.int .i16 0) (.int .i16 0) (.int .i16 0) (.int .i64 0), Rule.zero, 280, rfl, HA.out⟩
end Go.Proofs.YtoncjoelkenjnaaDoor.KR
