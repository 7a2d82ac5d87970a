/- dir.Split: its walk. -/
import Derived.Test.YtimmhinpdfpokaaDoorSpK
import Derived.Test.YtimmhinpdfpokaaDoorSpJ
namespace Go.Proofs.YtimmhinpdfpokaaDoor.SP
open Go.RowKit Mem
set_option linter.unusedVariables false
set_option linter.unusedSimpArgs false

/-- The row of the names. -/
def strs (ns : List (List UInt8)) : List Value := ns.map fun x => Value.string (sv x)
theorem strs_length (ns : List (List UInt8)) : (strs ns).length = ns.length := by simp [strs]
/-- What dir.Split answers. -/
def DS (w : World) (l : List UInt8) (e : Ending) (w' : World) : Prop :=
  Below w.heap.size w w' ∧ ((good l = true ∧ e = .returned (.tuple #[.slice (some ⟨w.heap.size, 0, none⟩) (cuts l).length (cuts l).length, .int .i64 0]) ∧ Blk w' w.heap.size 9 (strs (cuts l)).toArray) ∨
    (good l = false ∧ e = .returned (.tuple #[.slice none 0 0, .int .i64 (codeOf l)])))
theorem clip_r {w : World} {A : Addr} {n c : Nat} (hn : n ≤ c) (hc : n ≤ 9223372036854775807) : Calls Tryd.prog 8 #[.slice (some A) n c] w fun e w' => e = .returned (.slice (some A) n n) ∧ w = w' := by
  have h1 : (n : Int) ≤ (c : Int) := by omega
  have h2 : (0 : Int) ≤ (n : Int) := by omega
  go_enter Tryd.func8, Tryd.ntmps8
  go_wp2_with fail
  go_ret
  exact ⟨by simp, rfl⟩
theorem good_short {l : List UInt8} (h : l = [] ∨ 4096 < l.length ∨ 64 < (cuts l).length) : good l = false := by
  unfold good
  rcases h with h | h | h
  · simp [h]
  · have : ¬ l.length ≤ 4096 := by omega
    simp [this]
  · have : ¬ (cuts l).length ≤ 64 := by omega
    simp [this]
theorem good_not {l : List UInt8} {x : List UInt8} (hx : x ∈ cuts l) (h : named x = false) : good l = false := by
  have : (cuts l).all named = false := by
    rw [List.all_eq_false]; exact ⟨x, hx, by rw [h]; simp⟩
  unfold good
  rw [this]; simp
theorem good_yes {l : List UInt8} (h0 : l ≠ []) (h1 : ¬ 4096 < l.length) (h2 : ¬ 64 < (cuts l).length) (h : (cuts l).all named = true) : good l = true := by
  have a1 : l.length ≤ 4096 := by omega
  have a2 : (cuts l).length ≤ 64 := by omega
  unfold good
  rw [h]; simp [h0, a1, a2]
def DI (w : World) (l : List UInt8) (v : Value) (wr : World) : Prop := ∃ k : Nat, k ≤ (cuts l).length ∧ v = .int .i64 (k : Int) ∧ Below w.heap.size w wr ∧ Blk wr w.heap.size 9 (strs (cuts l)).toArray ∧ ((cuts l).take k).all named = true
set_option maxRecDepth 100000 in
set_option maxHeartbeats 4000000 in
theorem dsplit_r {w : World} {l : List UInt8} (hT : TW w) : Calls Tryd.prog 4 #[.string (sv l)] w fun e w' => DS w l e w' := by
  have HT := Lib.hid hT
  have hsz := sv_size l
  by_cases h0 : l = []
  · have HE := Lib.hid (good_short (l := l) (.inl h0))
    have HC := Lib.hid (show codeOf l = 0 by rw [codeOf, if_pos (.inl h0)])
    have g1 : (sv l).toList = [] := by rw [sv_list]; exact h0
    have g2 : ((sv l).toList == []) = true := by rw [g1]; rfl
    clear h0 hT
    go_enter Tryd.func4, Tryd.ntmps4
    go_wp2_with fail
    go_ret2
    exact ⟨Below.refl _ _, .inr ⟨HE.out, by rw [HC.out]; rfl⟩⟩
  have g1 : ¬ (sv l).toList = [] := by rw [sv_list]; exact h0
  have g1' : ((sv l).toList == []) = false := by rw [sv_list]; simpa using h0
  by_cases h1 : 4096 < l.length
  · have HE := Lib.hid (good_short (l := l) (.inr (.inl h1)))
    have HC := Lib.hid (show codeOf l = 250 by rw [codeOf, if_neg]; rw [HE.out]; simp [h0])
    have g2 : (4096 : Int) < (l.length : Int) := by omega
    clear h0 hT
    go_enter Tryd.func4, Tryd.ntmps4
    go_wp2_with fail
    go_ret2
    exact ⟨Below.refl _ _, .inr ⟨HE.out, by rw [HC.out]; rfl⟩⟩
  have g2 : ¬ (4096 : Int) < (l.length : Int) := by omega
  obtain ⟨m, hm⟩ := hT.2
  obtain ⟨n, hn⟩ : ∃ n, n = (cuts l).length := ⟨_, rfl⟩
  have hnl : n ≤ 4097 := by have := cuts_length l; omega
  obtain ⟨cs, hcs⟩ : ∃ cs, cs = (strs (cuts l)).toArray := ⟨_, rfl⟩
  have cS : Calls Tryd.prog 6 #[.string (sv l), .string { data := #[47] }] w fun e w' => e = .returned (.slice (some ⟨w.heap.size, 0, none⟩) n n) ∧ w' = w.alloc (.cells cs 9) := by
    have c := strings_Split (sv l) (sv [47]) m w (by rw [hsz]; omega) hm (by rw [sv_size]; simp)
    rw [countB_cuts, splitB_cuts, ← hn] at c
    have e1 : (((cuts l).map sv).map Value.string).toArray = cs := by rw [hcs]; simp [strs]
    rw [e1] at c
    exact c
  have HS := Lib.hid cS
  have HN := Lib.hid hn
  have HCS := Lib.hid hcs
  by_cases h2 : 64 < n
  · have HE := Lib.hid (good_short (l := l) (.inr (.inr (by rw [← hn]; exact h2))))
    have HC := Lib.hid (show codeOf l = 250 by rw [codeOf, if_neg]; rw [HE.out]; simp [h0])
    have g3 : (64 : Int) < (n : Int) := by omega
    clear h0 hT cS hn hcs hm
    go_enter Tryd.func4, Tryd.ntmps4
    go_wp2_with (first | (go_at_call 6; refine HS.out.mono ?_; rintro e w2 ⟨rfl, rfl⟩))
    go_ret2
    exact ⟨(Below.refl _ w).alloc (Nat.le_refl _) _, .inr ⟨HE.out, by rw [HC.out]; rfl⟩⟩
  have g3 : ¬ (64 : Int) < (n : Int) := by omega
  have H0 := Lib.hid h0
  have H2 := Lib.hid (show ¬ 64 < (cuts l).length by rw [← hn]; exact h2)
  clear h0 hT cS hn hcs hm
  go_enter Tryd.func4, Tryd.ntmps4
  go_wp2_with (first | (go_at_call 6; refine HS.out.mono ?_; rintro e w2 ⟨rfl, rfl⟩))
  go_loopw [19] (fun (v : Value) (wr : World) => DI w l v wr) (fun v _ => n - (intOf v).toNat)
  case atStart =>
    refine ⟨0, Nat.zero_le _, rfl, (Below.refl _ w).alloc (Nat.le_refl _) _, ?_, rfl⟩
    rw [← HCS.out]; exact Blk.new w _ _
  case round =>
    obtain ⟨k, hk, rfl, hb, hblk, hall⟩ := hrel
    rw [← HN.out] at hk
    have HA := Lib.hid hall
    have HBL := Lib.hid hblk
    have HB := Lib.hid hb
    by_cases hkn : k < n
    · obtain ⟨x, hx⟩ : ∃ x, (cuts l)[k]? = some x := ⟨_, List.getElem?_eq_getElem (by rw [← HN.out]; exact hkn)⟩
      have ck : wr.cell? ⟨w.heap.size, k, none⟩ = some (.string (sv x)) := by
        rw [hblk.cell, List.getElem?_toArray, strs, List.getElem?_map, hx]; rfl
      have hxm : x ∈ cuts l := List.mem_of_getElem? hx
      have hxl : x.length ≤ 1048576 := by have := cuts_size l x hxm; omega
      have HX := Lib.hid (And.intro hx (And.intro hxm hxl))
      have hj : (k : Int) < (n : Int) := by omega
      have HT2 := Lib.hid (HT.out.below hb HT.out.size)
      clear hall hblk hb hx hxm hxl
      cases hnx : named x with
      | false =>
        have HE := Lib.hid (good_not HX.out.2.1 hnx)
        have HC := Lib.hid (show codeOf l = 250 by rw [codeOf, if_neg]; rw [HE.out]; simp [H0.out])
        have HNX := Lib.hid hnx
        clear hnx
        go_wp2_with (first | (go_at_call 7; refine (isname_b HNX.out HX.out.2.2 HT2.out).mono ?_; rintro e w3 ⟨rfl, hb3⟩))
        go_ret2
        exact ⟨HB.out.trans (hb3.mono HB.out.size), .inr ⟨HE.out, by rw [HC.out]; rfl⟩⟩
      | true =>
        have HNX := Lib.hid hnx
        clear hnx
        go_wp2_with (first | (go_at_call 7; refine (isname_b HNX.out HX.out.2.2 HT2.out).mono ?_; rintro e w3 ⟨rfl, hb3⟩))
        refine ⟨⟨k + 1, by rw [← HN.out]; omega, by go_num, HB.out.trans (hb3.mono HB.out.size), (hb3.block _ HBL.out.lt).trans HBL.out, ?_⟩, by simp only [intOf]; omega⟩
        have hkl : k < (cuts l).length := by rw [← HN.out]; exact hkn
        rw [List.take_succ_eq_append_getElem hkl, List.all_append, HA.out]
        have : (cuts l)[k] = x := by have := HX.out.1; rw [List.getElem?_eq_getElem hkl] at this; exact Option.some.inj this
        simp [this, HNX.out]
    · obtain rfl : k = n := by omega
      have hj : ¬ (k : Int) < (k : Int) := by omega
      have HG := Lib.hid (good_yes H0.out h1 H2.out (by have := HA.out; rw [HN.out, List.take_length] at this; exact this))
      clear hall hblk hb
      go_wp2_with (first | (go_at_call 8; refine (clip_r (Nat.le_refl _) (by omega)).mono ?_; rintro e w3 ⟨rfl, rfl⟩))
      go_ret2
      exact ⟨HB.out, .inl ⟨HG.out, by rw [← HN.out]; rfl, HBL.out⟩⟩
end Go.Proofs.YtimmhinpdfpokaaDoor.SP
