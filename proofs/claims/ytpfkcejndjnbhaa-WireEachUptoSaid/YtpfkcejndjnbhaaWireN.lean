/- The program's taker: bytes, texts, keys; how it begins. -/
import Derived.Test.YtpfkcejndjnbhaaWireV
namespace Go.Proofs.Ytpfkcejndjnbhaa.WD
open Go.RowKit Mem WM
set_option linter.unusedVariables false
set_option linter.unusedSimpArgs false

theorem own_lower {w : World} {b b' : Nat} {e : TypeId} {size : Nat} {v : Value} {n : Nat} {xs : List Value} (h : w.ownsRow b' e size v n xs) (hb : b ≤ b') : w.ownsRow b e size v n xs := by
  refine ⟨h.1, ?_⟩
  rcases h.2 with h2 | ⟨g, cap, cur, hv, hg, r⟩
  · exact .inl h2
  · exact .inr ⟨g, cap, cur, hv, Nat.le_trans hb hg, r⟩

set_option maxRecDepth 100000 in
theorem next_ok {w : World} {g gb : Nat} {bs : List UInt8} {p : Nat} (n : Nat) (a : Int) (h : LiveAt w g gb bs p) (hn : n ≤ bs.length - p) :
    Calls Try.prog 53 #[.pointer (some ⟨g, 0, none⟩), .int .i64 (n : Int), .int .i64 a] w fun e w' =>
      ∃ A' c', e = .returned (.slice A' n c') ∧ LiveAt w' g gb bs (p + n) ∧ RdT w' A' ((bs.drop p).take n) ∧ Mod (one g) w w' := by
  obtain ⟨A, c, hb, h1, h2, h3, h4⟩ := h
  have hL := h2
  unfold maxLen at hL
  have HA := Lib.hid h3
  clear h3
  have c0 := hb.cell 0
  have c1 := hb.cell 1
  simp at c0 c1
  have f1 := hb.free 1
  have e1 : IntKind.i64.wrap ((bs.length : Int) - (p : Int)) = (bs.length : Int) - (p : Int) := IntWalk.i64_in _ (by omega)
  have e2 : IntKind.i64.wrap ((p : Int) + (n : Int)) = (p : Int) + (n : Int) := IntWalk.i64_in _ (by omega)
  have e3 : IntKind.i64.wrap (p : Int) = (p : Int) := IntWalk.i64_in _ (by omega)
  have b1 : decide ((bs.length : Int) - (p : Int) < (n : Int)) = false := by simp; omega
  have x1 : (0 : Int) ≤ (p : Int) := by omega
  have x2 : (p : Int) ≤ (p : Int) + (n : Int) := by omega
  have x3 : (p : Int) + (n : Int) ≤ (c : Int) := by omega
  go_enter Try.func53, Try.ntmps53
  go_wp2_with fail
  go_quiet (fail)
  go_wp2_with fail
  go_quiet (fail)
  go_wp2_with fail
  all_goals
    go_ret
    have L := fun n' => live_put (p' := p + n) hb h1 h2 HA.out (by omega) n' (v := (p : Int) + (n : Int)) (by omega)
    have hcut := HA.out.cut p n (by omega) h1
    first
      | rw [if_neg (by assumption)] at hcut
      | (have hcp : c = p := by assumption
         rw [if_pos hcp] at hcut)
    refine ⟨_, ⟨_, rfl⟩, ?_, ?_, (L _).2.drewN _⟩
    · exact (L _).1.mod (S := no) ((Mod.refl no _).drewN _) (fun c => c) (fun _ c => c)
    · exact (RdB.mod (S := no) (hcut.mod_other hb (by decide) (L _).2) ((Mod.refl no _).drewN _) (fun _ c => c)).t

theorem next_no {w : World} {g gb : Nat} {bs : List UInt8} {p : Nat} (n : Int) (a : Nat) (h : LiveAt w g gb bs p) (hn : ((bs.length - p : Nat) : Int) < n) (ha : a ≤ bs.length) :
    Calls Try.prog 53 #[.pointer (some ⟨g, 0, none⟩), .int .i64 n, .int .i64 (a : Int)] w fun e w' =>
      e = .returned (.slice none 0 0) ∧ DeadAt w' g bs a 10 ∧ Mod (one g) w w' := by
  obtain ⟨A, c, hb, h1, h2, h3, h4⟩ := h
  have hL := h2
  unfold maxLen at hL
  have HA := Lib.hid h3
  clear h3
  have c0 := hb.cell 0
  have c1 := hb.cell 1
  simp at c0 c1
  have e1 : IntKind.i64.wrap ((bs.length : Int) - (p : Int)) = (bs.length : Int) - (p : Int) := IntWalk.i64_in _ (by omega)
  have b1 : decide ((bs.length : Int) - (p : Int) < n) = true := by simp; omega
  go_enter Try.func53, Try.ntmps53
  go_wp2_with fail
  go_quiet (fail)
  go_wp2_with fail
  refine (stop_any _ _ (hb.drewN _)).mono ?_
  rintro e w1 ⟨rfl, k, B1, B2, M⟩
  go_wp2_with fail
  go_ret
  exact ⟨rfl, ⟨A, c, p, k, B1, by simpa using B2, ha⟩, ((Mod.refl (one g) w).drewN _).and_then M⟩

/-- How it begins: over a copy. -/
theorem open_any {w : World} {A : Option Addr} {c : Nat} {l : List UInt8} (hr : RdT w A l) (hl : l.length ≤ 140737488355328) :
    Calls Try.prog 15 #[.slice A l.length c] w fun e w' => ∃ g gb, e = .returned (.pointer (some ⟨g, 0, none⟩)) ∧ w.heap.size ≤ g ∧ w.heap.size ≤ gb ∧ LiveAt w' g gb l 0 ∧ Mod no w w' := by
  go_enter Try.func15, Try.ntmps15
  go_wp2_with fail
  refine (clone_any hr hl).mono ?_
  rintro e w1 ⟨A', c', rfl, hown, M⟩
  go_wp2_with fail
  go_ret
  have hcap := own_cap hown
  obtain ⟨gb, hgb, hrd⟩ := RdB.of_own (hown.alloc (.cells #[.slice A' l.length c', .int .i64 0, .pointer none] 76))
  exact ⟨w1.heap.size, gb, rfl, M.size, hgb, ⟨A', c', Blk.new _ _ _, hcap.1, hcap.2, hrd, Nat.zero_le _⟩, M.alloc _⟩

theorem clone_nil (w : World) : Calls Try.prog 50 #[.slice none 0 0] w fun e w' => e = .returned (.slice none 0 0) ∧ w = w' := by
  have heq := fun (W : World) => Lib.run_eql_slice_nil (P := Try.prog) W 23 5 none 0 0 0 0 Try.underlying23
  simp only [Option.isNone_none] at heq
  go_enter Try.func50, Try.ntmps50
  go_wp2
  go_ret
  exact ⟨rfl, rfl⟩

/-- Raw. -/
theorem raw_any {w : World} {g gb : Nat} {bs : List UInt8} {s : St} (n : Int) (h : DecAt w g gb bs s) (hb : bs.length ≤ 140737488355328) :
    Calls Try.prog 19 #[.pointer (some ⟨g, 0, none⟩), .int .i64 n] w fun e w' =>
      ∃ A' c', e = .returned (.slice A' (rawA bs s n).2.length c') ∧ w'.ownsRow w.heap.size 5 1 (.slice A' (rawA bs s n).2.length c') (rawA bs s n).2.length (bvs (rawA bs s n).2) ∧ (rawA bs s n).2.length ≤ c' ∧ DecAt w' g gb bs (rawA bs s n).1 ∧ Mod (one g) w w' ∧ ((rawA bs s n).2 = [] → A' = none) := by
  have HB := Lib.hid hb
  clear hb
  cases s with
  | dead a e =>
    have H := Lib.hid h
    clear h
    go_enter Try.func19, Try.ntmps19
    go_wp2_with (go_at_call 51; refine (over_dead H.out).mono ?_; rintro e w' ⟨rfl, rfl⟩)
    go_ret
    exact ⟨none, 0, rfl, World.ownsRow_nil _ _ _ _, Nat.le_refl _, H.out, Mod.refl _ _, fun _ => rfl⟩
  | live p =>
    have H := Lib.hid h
    obtain ⟨A, c, hb, h1, h2, h3, h4⟩ := h
    have HA := Lib.hid h3
    have c1 := hb.cell 1
    simp at c1
    clear h3
    by_cases hn : n ≤ 0
    · have hr : rawA bs (.live p) n = (.live p, []) := by simp [rawA, hn]
      rw [hr]
      go_enter Try.func19, Try.ntmps19
      go_wp2_with (go_at_call 51; refine (over_live H.out).mono ?_; rintro e w' ⟨rfl, rfl⟩)
      go_ret
      exact ⟨none, 0, rfl, World.ownsRow_nil _ _ _ _, Nat.le_refl _, H.out, Mod.refl _ _, fun _ => rfl⟩
    · obtain ⟨m, rfl⟩ : ∃ m : Nat, n = (m : Int) := ⟨n.toNat, by omega⟩
      by_cases hm : m ≤ bs.length - p
      · have hr : rawA bs (.live p) m = (.live (p + m), (bs.drop p).take m) := by simp only [rawA]; rw [if_neg hn, Int.toNat_natCast, if_pos hm]
        have hlen : ((bs.drop p).take m).length = m := by simp; omega
        have hne : (bs.drop p).take m ≠ [] := by intro e; rw [e] at hlen; simp at hlen; omega
        rw [hr]
        generalize hX : (bs.drop p).take m = X at *
        have HX := Lib.hid hX
        have HLN := Lib.hid hlen
        have HNE := Lib.hid hne
        clear hr hX hlen hne
        go_enter Try.func19, Try.ntmps19
        go_wp2_with (go_at_call 51; refine (over_live H.out).mono ?_; rintro e w' ⟨rfl, rfl⟩)
        refine (next_ok m _ H.out hm).mono ?_
        rintro e w1 ⟨A1, k1, rfl, L1, R1, M1⟩
        go_wp2_with fail
        rw [HX.out] at R1
        rw [← HLN.out]
        refine (clone_any R1 (by rw [HLN.out]; have := HB.out; omega)).mono ?_
        rintro e w2 ⟨A2, k2, rfl, hown, M2⟩
        go_wp2_with fail
        go_ret
        exact ⟨A2, k2, rfl, own_lower hown M1.size, (own_cap hown).1, L1.mod M2 (fun c => c) (fun _ c => c), M1.trans M2 (fun _ _ c => c.elim), fun e => absurd e HNE.out⟩
      · have hr : rawA bs (.live p) m = (.dead p 10, []) := by simp only [rawA]; rw [if_neg hn, Int.toNat_natCast, if_neg hm]
        rw [hr]
        clear hr
        go_enter Try.func19, Try.ntmps19
        go_wp2_with (go_at_call 51; refine (over_live H.out).mono ?_; rintro e w' ⟨rfl, rfl⟩)
        refine (next_no _ p H.out (by omega) h4).mono ?_
        rintro e w1 ⟨rfl, D1, M1⟩
        go_wp2_with fail
        refine (clone_nil _).mono ?_
        rintro e w2 ⟨rfl, rfl⟩
        go_wp2_with fail
        go_ret
        exact ⟨none, 0, rfl, World.ownsRow_nil _ _ _ _, Nat.le_refl _, D1, M1, fun _ => rfl⟩

theorem nums_bytes (l : List UInt8) : strOfNums (l.map fun b => (b.toNat : Int)) = ⟨l.toArray⟩ := by
  unfold strOfNums
  congr 1
  rw [List.map_map]
  have : (((fun n : Int => UInt8.ofNat n.toNat) ∘ fun b : UInt8 => (b.toNat : Int))) = id := by
    funext b; simp
  rw [this, List.map_id]

/-- 'string(b)'. -/
theorem conv_string {w : World} {A : Option Addr} {l : List UInt8} (h : RdT w A l) (n c : Nat) (hn : n = l.length) :
    (convert 23 9 (.slice A n c)).run Try.prog w = .ok (.string ⟨l.toArray⟩) w := by
  subst hn
  by_cases hl : l = []
  · subst hl
    rcases A with _ | ad
    · exact run_convert_bytes_nil w _ _ Try.underlying23 Try.underlying5 _ _ _ Try.underlying9
    · rw [run_convert_bytes_string w _ _ _ _ _ _ Try.underlying23 Try.underlying5 Try.underlying9]
      have := run_bytesToString (P := Try.prog) w ad 0 c [] (by simp [loadCells, loadCellsFrom])
      exact this
  · obtain ⟨g, o, cs, rfl, hb, hcs⟩ := h hl
    have := run_convert_bytes_arg (P := Try.prog) w _ _ Try.underlying23 Try.underlying5 g o l.length c (l.map fun b => (b.toNat : Int)) (by simp) (by
      intro i hi
      rw [hb.cell, hcs i hi, bvs_get l i hi]
      simp [List.getD, List.getElem?_eq_getElem hi]) _ Try.underlying9
    rw [this, nums_bytes]

theorem var_go {w : World} {g gb : Nat} {bs : List UInt8} {p : Nat} (mm : Nat) (most : Int) (h : LiveAt w g gb bs p) (hm1 : 0 ≤ most) (hm2 : most ≤ 18446744073709551615) (hmm : mm = most.toNat) :
    Calls Try.prog 29 #[.pointer (some ⟨g, 0, none⟩), .int .u64 most] w fun e w' => ∃ s n, Hid (varGo bs p mm 10 0 0 = (s, n)) ∧ e = .returned (.int .u64 (n : Int)) ∧ DecAt w' g gb bs s ∧ Mod (one g) w w' := by
  subst hmm
  exact var_live most h hm1 hm2

/-- Text. -/
theorem text_any {w : World} {g gb : Nat} {bs : List UInt8} {s : St} (n : Int) (h : DecAt w g gb bs s) (hn1 : -9223372036854775808 ≤ n) (hn2 : n ≤ 9223372036854775807) :
    Calls Try.prog 58 #[.pointer (some ⟨g, 0, none⟩), .int .i64 n] w fun e w' =>
      e = .returned (.string ⟨(textA bs s n).2.toArray⟩) ∧ DecAt w' g gb bs (textA bs s n).1 ∧ Mod (one g) w w' := by
  cases s with
  | dead a e =>
    have H := Lib.hid h
    clear h
    go_enter Try.func58, Try.ntmps58
    go_wp2_with (go_at_call 51; refine (over_dead H.out).mono ?_; rintro e w' ⟨rfl, rfl⟩)
    go_ret
    exact ⟨rfl, H.out, Mod.refl _ _⟩
  | live p =>
    have H := Lib.hid h
    obtain ⟨A, c, hb, h1, h2, h3, h4⟩ := h
    have c1 := hb.cell 1
    simp at c1
    clear h3
    have hL := h2
    unfold maxLen at hL
    by_cases hneg : n ≤ 0
    all_goals
      go_enter Try.func58, Try.ntmps58
      go_wp2_with (go_at_call 51; refine (over_live H.out).mono ?_; rintro e w' ⟨rfl, rfl⟩)
      refine (var_go n.toNat _ H.out (by omega) (by omega) (by omega)).mono ?_
      rintro e w1 ⟨s1, m, HV, rfl, D1, M1⟩
      cases s1 with
      | dead a e =>
        have HD := Lib.hid D1
        clear D1
        go_wp2_with (go_at_call 51; refine (over_dead HD.out).mono ?_; rintro e w' ⟨rfl, rfl⟩)
        go_ret
        have ht : textA bs (.live p) n = (.dead a e, []) := by simp only [textA, HV.out]
        rw [ht]
        exact ⟨rfl, HD.out, M1⟩
      | live q =>
        have HD := Lib.hid D1
        clear D1
        have hvb := varGo_10 bs p n.toNat q m h4 HV.out
        obtain ⟨hv1, hv2, hv3, hv4⟩ := hvb
        clear hv4
        have ewm : IntKind.i64.wrap (m : Int) = (m : Int) := IntWalk.i64_in _ (by omega)
        by_cases hm : m ≤ bs.length - q
        · have ht : textA bs (.live p) n = (.live (q + m), (bs.drop q).take m) := by simp only [textA, HV.out]; rw [if_pos hm]
          have hlen : m = ((bs.drop q).take m).length := by simp; omega
          have HT := Lib.hid ht
          have HLN := Lib.hid hlen
          clear hlen ht
          go_wp2_with (go_at_call 51; refine (over_live HD.out).mono ?_; rintro e w' ⟨rfl, rfl⟩)
          refine (next_ok m _ HD.out hm).mono ?_
          rintro e w2 ⟨A2, k2, rfl, L2, R2, M2⟩
          have hcv := conv_string R2 m k2 HLN.out
          go_wp2_with fail
          go_ret
          rw [HT.out]
          exact ⟨rfl, L2, M1.and_then M2⟩
        · have ht : textA bs (.live p) n = (.dead p 10, []) := by simp only [textA, HV.out]; rw [if_neg hm]
          have HT := Lib.hid ht
          clear ht
          go_wp2_with (go_at_call 51; refine (over_live HD.out).mono ?_; rintro e w' ⟨rfl, rfl⟩)
          refine (next_no _ p HD.out (by omega) h4).mono ?_
          rintro e w2 ⟨rfl, D2, M2⟩
          have hcv := conv_string (RdT.nil_ w2 none) 0 0 rfl
          go_wp2_with fail
          go_ret
          rw [HT.out]
          exact ⟨rfl, D2, M1.and_then M2⟩

end Go.Proofs.Ytpfkcejndjnbhaa.WD
