/- DirSplits: the law's walk. -/
import Derived.Test.YtimmhinpdfpokaaDoorSpF
namespace Go.Proofs.YtimmhinpdfpokaaDoor.SP
open Go.RowKit Mem
set_option linter.unusedVariables false
set_option linter.unusedSimpArgs false

/-- What loop 1 holds: the program's names are spoilt up to a place; the document's stand. -/
def LA (w w1 : World) (l : List UInt8) (A A' : Option Addr) (c' : Nat) (v : Value) (wr : World) : Prop := ∃ (k : Nat) (xs : List Value), k ≤ (parts l).length ∧ v = .int .i64 (k : Int) ∧ wr.ownsRow w.heap.size 9 1 (.slice A (parts l).length (parts l).length) (parts l).length xs ∧ (∀ j, k ≤ j → xs[j]? = (strs (parts l))[j]?) ∧ Got w1 wr l A' c' ∧ Below w.heap.size w wr
/-- What loop 2 holds: a row that grows. -/
def LB (w w1 : World) (l : List UInt8) (A' : Option Addr) (c' : Nat) (v3 v8 : Value) (wr : World) : Prop := ∃ (j m c : Nat) (A : Option Addr) (xs : List Value), j ≤ 16 ∧ v8 = .int .i64 (j : Int) ∧ v3 = .slice A m c ∧ m ≤ 64 + j ∧ wr.ownsRow w.heap.size 9 1 (.slice A m c) m xs ∧ Got w1 wr l A' c' ∧ (∀ b, (Value.slice A m c).ownBlock = some b → (Value.slice A' (parts l).length c').ownBlock ≠ some b) ∧ Below w.heap.size w wr
/-- What loop 3 holds. -/
def LC (w w1 w3 : World) (l : List UInt8) (A A' : Option Addr) (c' : Nat) (v : Value) (wr : World) : Prop := ∃ k : Nat, k ≤ (parts l).length ∧ v = .int .i64 (k : Int) ∧ Got w3 wr l A (parts l).length ∧ Got w1 wr l A' c' ∧ Below w.heap.size w wr
theorem strs_get {ns : List (List UInt8)} {k : Nat} (h : k < ns.length) : ∃ y, (strs ns)[k]? = some (.string (sv y)) := ⟨ns[k], by rw [strs, List.getElem?_map, List.getElem?_eq_getElem h]; rfl⟩
theorem below_mod {S : Nat → Prop} {B : Nat} {w w1 w2 : World} (h : Below B w w1) (hm : Mod S w1 w2) (hB : B ≤ w1.heap.size) (hs : ∀ k, k < w1.heap.size → S k → B ≤ k) : Below B w w2 := h.trans (hm.below hB hs)
theorem ne_beq (s : ByteArray) : (s.toList == s.toList) = true := by simp
set_option maxRecDepth 100000 in
set_option maxHeartbeats 8000000 in
theorem splits_law {w : World} {l : List UInt8} (hT : TW w) : Calls Tryd.prog 3 #[.string (sv l)] w fun e w' => e = .returned (.bool true) ∧ Below w.heap.size w w' := by
  have HT := Lib.hid hT
  obtain ⟨n, hn⟩ : ∃ n, n = (parts l).length := ⟨_, rfl⟩
  obtain ⟨cd, hcd⟩ : ∃ cd, cd = codeOf l := ⟨_, rfl⟩
  have hn64 : n ≤ 64 := by have := parts_small l; omega
  have HN := Lib.hid hn
  have HCD := Lib.hid hcd
  have HD := Lib.hid (show Calls Tryd.prog 4 #[.string (sv l)] w fun e w' => Below w.heap.size w w' ∧ ∃ A, e = .returned (.tuple #[.slice A n n, .int .i64 cd]) ∧ Got w w' l A n from (dsplit_r hT).mono fun e w' h => by rw [hn, hcd]; exact h.got)
  have HR := Lib.hid (show ∀ w1 : World, Calls Tryd.prog 5 #[.string (sv l)] w1 fun e w' => Mod no w1 w' ∧ ∃ A c, e = .returned (.tuple #[.slice A n c, .int .i64 cd]) ∧ Got w1 w' l A c from fun w1 => (rsplit_r (w := w1)).mono fun e w' h => by rw [hn, hcd]; exact h.got)
  have HD2 := Lib.hid (show ∀ w1 : World, TW w1 → Calls Tryd.prog 4 #[.string (sv l)] w1 fun e w' => Below w1.heap.size w1 w' ∧ ∃ A, e = .returned (.tuple #[.slice A n n, .int .i64 cd]) ∧ Got w1 w' l A n from fun w1 h1 => (dsplit_r h1).mono fun e w' h => by rw [hn, hcd]; exact h.got)
  clear hT hn hcd
  go_enter Tryd.func3, Tryd.ntmps3
  go_wp2_with (first
    | (go_at_call 4; refine HD.out.mono ?_; rintro e w1 ⟨hb1, A, rfl, hg1⟩; have HB1 := Lib.hid hb1; have HG1 := Lib.hid hg1; clear hb1 hg1)
    | (go_at_call 5; refine (HR.out w1).mono ?_; rintro e w2 ⟨hm2, A', c', rfl, hg2⟩; have HM2 := Lib.hid hm2; have HG2 := Lib.hid hg2; clear hm2 hg2))
  go_loopw [7] (fun (v : Value) (wr : World) => LA w w1 l A A' c' v wr) (fun v _ => n - (intOf v).toNat)
  case atStart =>
    have h1 := HG1.out
    have hn := HN.out
    unfold Got at h1
    rw [← hn] at h1
    refine ⟨0, strs (parts l), Nat.zero_le _, rfl, ?_, fun _ _ => rfl, HG2.out, below_mod HB1.out HM2.out HB1.out.size (fun _ _ c => c.elim)⟩
    rw [← hn]
    exact own_kept h1 HM2.out (fun _ _ c => c)
  case round =>
    obtain ⟨k, xs, hk, rfl, hown, hxs, hgr, hb⟩ := hrel
    rw [← HN.out] at hk hown
    have hgr' := hgr
    unfold Got at hgr'
    rw [← HN.out] at hgr'
    by_cases hkn : k < n
    · obtain ⟨y, hy⟩ := strs_get (ns := parts l) (k := k) (by rw [← HN.out]; exact hkn)
      obtain ⟨g, hA, hg1, hg2, ck, fk⟩ := own_get hown ((hxs k (Nat.le_refl _)).trans hy)
      obtain ⟨g', hA', hg1', hg2', ck', fk'⟩ := own_get hgr' hy
      subst hA hA'
      have hlt1 : g < w1.heap.size := by
        have h1 := HG1.out
        exact (own_block h1 g rfl).2
      have hbq := ne_beq (sv y)
      have hj : (k : Int) < (n : Int) := by omega
      have hj0 : (0 : Int) ≤ (k : Int) := by omega
      have HO := Lib.hid hown
      have HGR := Lib.hid hgr
      have HBB := Lib.hid hb
      have HXS := Lib.hid hxs
      have HY := Lib.hid hy
      clear hown hgr hgr' hb hxs hy
      go_wp2_with fail
      go_quiet (fail)
      go_wp2_with fail
      have m1 : Mod no wr (wr.drewN nq) := (Mod.refl no wr).drewN nq
      have m2 := own_set (own_kept HO.out m1 (fun _ _ c => c)) k (.string { data := #[115, 112, 111, 105, 108, 116] })
      have m3 : Mod (one g) wr ((wr.drewN nq).setCell ⟨g, k, none⟩ (.string { data := #[115, 112, 111, 105, 108, 116] })) := (m1.mono (fun _ _ c => c.elim)).and_then m2.2
      refine ⟨⟨k + 1, xs.set k (.string { data := #[115, 112, 111, 105, 108, 116] }), by rw [← HN.out]; omega, by go_num, by rw [← HN.out]; exact m2.1, ?_, ?_, ?_⟩, by simp only [intOf]; omega⟩
      · intro j hj
        rw [List.getElem?_set_ne (by omega)]
        exact HXS.out j (by omega)
      · refine own_kept HGR.out m3 (fun b hb c => ?_)
        have hb : g' = b := by injection hb
        have c : b = g := c
        omega
      · exact below_mod HBB.out m3 HBB.out.size (fun b _ c => by have c : b = g := c; omega)
    · obtain rfl : n = k := by omega
      have hj : ¬ (n : Int) < (n : Int) := by omega
      have hsep : ∀ b, (Value.slice A n n).ownBlock = some b → (Value.slice A' (parts l).length c').ownBlock ≠ some b := by
        intro b h1 h2
        have a1 := own_block HG1.out b (by rw [← HN.out]; exact h1)
        have a2 := own_block HG2.out b h2
        omega
      have HO := Lib.hid hown
      have HGR := Lib.hid hgr
      have HBB := Lib.hid hb
      have HSEP := Lib.hid hsep
      clear hown hgr hgr' hb hxs hk hkn hsep
      go_wp2_with fail
      go_loopw [3, 8] (fun (v3 v8 : Value) (wr : World) => LB w w1 l A' c' v3 v8 wr) (fun _ v8 _ => 16 - (intOf v8).toNat)
      case atStart => exact ⟨0, n, n, A, xs, by omega, rfl, rfl, by omega, HO.out, HGR.out, HSEP.out, HBB.out⟩
      case round =>
        clear HO HGR HBB HSEP
        obtain ⟨j, m, c, A2, ys, hj2, rfl, rfl, hm, hown, hgr, hsep, hb⟩ := hrel
        have HO := Lib.hid hown
        have HGR := Lib.hid hgr
        have HBB := Lib.hid hb
        have HSEP := Lib.hid hsep
        clear hown hgr hb hsep
        by_cases hjn : j < 16
        · have hj3 : (j : Int) < 16 := by omega
          obtain ⟨i0, hi0, hz0, hz1, hz2⟩ := tx_info
          have HI0 := Lib.hid (And.intro hi0 (And.intro hz0 (And.intro hz1 hz2)))
          clear hi0 hz0 hz1 hz2
          go_wp2_with (first | (at_builtin; refine wpList_putg rfl (.tmp 54) (.tmp 55) 22 rfl w.heap.size 9 i0 (.string ⟨#[]⟩) 16 Tryd.underlying22 HI0.out.1 HI0.out.2.1 HI0.out.2.2.1 HI0.out.2.2.2 rfl wr A2 c m _ (.string { data := #[109, 111, 114, 101] }) rfl rfl HO.out rfl (by simp only [maxLen]; omega) (by omega) HBB.out.size ?_; rintro A3 c3 w5 hown3 hM3 hat3; have HO3 := Lib.hid hown3; have HM3 := Lib.hid hM3; have HA3 := Lib.hid hat3; clear hown3 hM3 hat3))
          refine ⟨⟨j + 1, m + 1, c3, A3, _, by omega, by go_num, rfl, by omega, HO3.out, own_kept HGR.out HM3.out (fun b hb c => HSEP.out b c hb), ?_, below_mod HBB.out HM3.out HBB.out.size (fun b _ c => (own_block HO.out b c).1)⟩, by simp only [intOf]; omega⟩
          intro b h1 h2
          rcases HA3.out with h3 | ⟨b', h3, h4⟩
          · exact HSEP.out b (by rw [← h3]; exact h1) h2
          · rw [h4] at h1
            injection h1 with h1
            have := own_block HGR.out b h2
            omega
        · obtain rfl : j = 16 := by omega
          have hj3 : ¬ ((16 : Nat) : Int) < 16 := by omega
          have HTW := Lib.hid (HT.out.below HBB.out HT.out.size)
          go_wp2_with (first
            | (go_at_call 4; refine (HD2.out _ HTW.out).mono ?_; rintro e w4 ⟨hb4, A4, rfl, hg4⟩; have HB4 := Lib.hid hb4; have HG4 := Lib.hid hg4; clear hb4 hg4))
          go_loopw [11] (fun (v : Value) (wr2 : World) => LC w w1 wr l A4 A' c' v wr2) (fun v _ => n - (intOf v).toNat)
          case atStart =>
            refine ⟨0, Nat.zero_le _, rfl, by rw [← HN.out]; exact HG4.out, own_kept HGR.out (Mod.of_new (S := no) HB4.out) (fun _ _ c => c), HBB.out.trans (HB4.out.mono HBB.out.size)⟩
          case round =>
            obtain ⟨k, hk, rfl, hga, hgw, hb⟩ := hrel
            rw [← HN.out] at hk
            have hga' := hga
            have hgw' := hgw
            unfold Got at hga' hgw'
            rw [← HN.out] at hga' hgw'
            by_cases hkn : k < n
            · obtain ⟨y, hy⟩ := strs_get (ns := parts l) (k := k) (by rw [← HN.out]; exact hkn)
              obtain ⟨g, hA, hg1, hg2, ck, fk⟩ := own_get hga' hy
              obtain ⟨g', hA', hg1', hg2', ck', fk'⟩ := own_get hgw' hy
              subst hA hA'
              have hbq := ne_beq (sv y)
              have hj4 : (k : Int) < (n : Int) := by omega
              have hj5 : (0 : Int) ≤ (k : Int) := by omega
              have HGA := Lib.hid hga
              have HGW := Lib.hid hgw
              have HBC := Lib.hid hb
              clear hga hgw hga' hgw' hb hy hj3 hj
              go_wp2_with fail
              go_quiet (fail)
              go_wp2_with fail
              have m1 : Mod no wr (wr.drewN nq) := (Mod.refl no wr).drewN nq
              refine ⟨⟨k + 1, by rw [← HN.out]; omega, by go_num, own_kept HGA.out m1 (fun _ _ c => c), own_kept HGW.out m1 (fun _ _ c => c), below_mod HBC.out m1 HBC.out.size (fun _ _ c => c.elim)⟩, by simp only [intOf]; omega⟩
            · obtain rfl : n = k := by omega
              have hj4 : ¬ (n : Int) < (n : Int) := by omega
              have HBC := Lib.hid hb
              clear hga hgw hga' hgw' hb
              go_wp2_with fail
              go_ret
              exact ⟨rfl, HBC.out⟩
end Go.Proofs.YtimmhinpdfpokaaDoor.SP
