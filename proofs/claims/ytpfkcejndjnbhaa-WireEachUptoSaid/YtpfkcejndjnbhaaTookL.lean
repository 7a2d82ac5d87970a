/- The law's took, by the document: a list. -/
import Derived.Test.YtpfkcejndjnbhaaTook
namespace Go.Proofs.Ytpfkcejndjnbhaa.RD
open Go.RowKit Mem WM
open Go.Proofs.Ytpfkcejndjnbhaa.WD (RdT RdB u8_info conv_string own_lower own_mod conv_range fixA_lt raw_len key_size mod_sets raw_32 takeV gotV got_blk got_mod got_done got_size key_len wpList_store_key rowS wpList_put1 varGo_dead)
set_option linter.unusedVariables false
set_option linter.unusedSimpArgs false

/-- What the loop carries. -/
def TkInv (w : World) (g gb : Nat) (bs : List UInt8) (s : St) (n : Int) (q N : Nat) (v i : Value) (wr : World) : Prop :=
  ∃ (j : Nat) (xs : List UInt8), j ≤ N ∧ i = .int .u64 (j : Int) ∧ wr.ownsRow w.heap.size 5 1 v j (bvs xs) ∧ j ≤ bs.length + 1 ∧ Mod (one g) w wr ∧
    ((RLive wr g gb bs (q + j) ∧ q + j ≤ bs.length ∧ xs = (bs.drop q).take j ∧ listA bs s n = if N ≤ bs.length - q then (.live (q + N), (bs.drop q).take N) else (.dead bs.length 10, [])) ∨
     ∃ a c, RDead wr g bs a c ∧ listA bs s n = (.dead a c, []))

def tkW (w : World) (most : Nat) (n : Int) : World :=
  (w.alloc (.cells #[.int .i64 13, .int .u64 (most : Int), .int .i64 n] 69)).alloc (.cells #[.int .u64 0, .string ⟨#[]⟩] 66)

theorem tk_start {W0 w1 : World} {g gb : Nat} {bs : List UInt8} {s : St} {n : Int} (hf : Fit bs s) (M1 : Mod (one g) W0 w1) (D1 : RAt w1 g gb bs (varA bs s n.toNat).1) :
    (varA bs s n.toNat).2 < 18446744073709551616 ∧ ∃ q, TkInv W0 g gb bs s n q (varA bs s n.toNat).2 (.slice none 0 0) (.int .u64 0) w1 := by
  cases s with
  | dead a c => exact ⟨by simp [varA], 0, 0, [], Nat.zero_le _, rfl, ⟨rfl, .inl ⟨rfl, rfl⟩⟩, by omega, M1, .inr ⟨a, c, D1, rfl⟩⟩
  | live p =>
    have hv : varA bs (.live p) n.toNat = varGo bs p n.toNat 10 0 0 := rfl
    rw [hv] at D1 ⊢
    cases e : varGo bs p n.toNat 10 0 0 with
    | mk s1 m =>
      rw [e] at D1
      cases s1 with
      | dead a c =>
        have hm := varGo_dead bs p _ _ _ _ _ _ _ e
        subst hm
        exact ⟨by simp, 0, 0, [], Nat.zero_le _, rfl, ⟨rfl, .inl ⟨rfl, rfl⟩⟩, by omega, M1, .inr ⟨a, c, D1, by simp only [listA, e]⟩⟩
      | live q =>
        have hb := varGo_10 bs p n.toNat q m hf e
        exact ⟨hb.2.2.2, q, 0, [], Nat.zero_le _, rfl, ⟨rfl, .inl ⟨rfl, rfl⟩⟩, by omega, M1, .inl ⟨D1, hb.2.1, by simp, by simp only [listA, e]⟩⟩

theorem rvar_n {w : World} {g gb : Nat} {bs : List UInt8} {s : St} (most : Nat) {v : Int} (hv : v = (most : Int)) (h : RAt w g gb bs s) (hm : most < 18446744073709551616) :
    Calls Try.prog 20 #[.pointer (some ⟨g, 0, none⟩), .int .u64 v] w fun e w' => e = .returned (.int .u64 ((varA bs s most).2 : Int)) ∧ RAt w' g gb bs (varA bs s most).1 ∧ Mod (one g) w w' := by
  subst hv; exact rvar_any most h hm

theorem take_snoc (bs : List UInt8) (q j : Nat) (b : UInt8) (h : bs[q + j]? = some b) : bvs ((bs.drop q).take (j + 1)) = bvs ((bs.drop q).take j) ++ [.int .u8 (b.toNat : Int)] := by
  rw [List.take_add_one, List.getElem?_drop, h, bvs_append]; simp [bvs, bv]

theorem fixed_one {w : World} {g gb : Nat} {bs : List UInt8} {p : Nat} (b : UInt8) (h : RLive w g gb bs p) (hp : bs[p]? = some b) (hb : bs.length ≤ 70368744177664) :
    Calls Try.prog 73 #[.pointer (some ⟨g, 0, none⟩), .int .i64 1] w fun e w' =>
      e = .returned (.int .u64 ((b.toNat : Nat) : Int)) ∧ RLive w' g gb bs (p + 1) ∧ Mod (one g) w w' := by
  have hlt : p < bs.length := (List.getElem?_eq_some_iff.1 hp).1
  have hbv : bs[p] = b := (List.getElem?_eq_some_iff.1 hp).2
  have h1 : fixA bs (.live p) 1 = (.live (p + 1), b.toNat) := by
    simp only [fixA, rawA]
    rw [if_neg (by decide), if_pos (by simp; omega)]
    have e : (bs.drop p).take (((1 : Nat) : Int)).toNat = [bs[p]] := by
      rw [show (((1 : Nat) : Int)).toNat = 1 from rfl, List.drop_eq_getElem_cons hlt]; rfl
    rw [e, hbv]; simp [le]
  refine (rfixed_v (s := .live p) 1 rfl (by decide) h hb).mono ?_
  rw [h1]
  exact fun e w' h => h
theorem fixed_end {w : World} {g gb : Nat} {bs : List UInt8} {p : Nat} (h : RLive w g gb bs p) (hp : p = bs.length) (hb : bs.length ≤ 70368744177664) :
    Calls Try.prog 73 #[.pointer (some ⟨g, 0, none⟩), .int .i64 1] w fun e w' =>
      e = .returned (.int .u64 0) ∧ RDead w' g bs bs.length 10 ∧ Mod (one g) w w' := by
  have h1 : fixA bs (.live p) 1 = (.dead bs.length 10, 0) := by
    simp only [fixA, rawA]
    rw [if_neg (by decide), if_neg (by simp; omega), hp]; simp [le]
  refine (rfixed_v (s := .live p) 1 rfl (by decide) h hb).mono ?_
  rw [h1]
  exact fun e w' h => h

set_option maxRecDepth 100000 in
set_option maxHeartbeats 2000000 in
theorem took_list {w : World} {g gb : Nat} {bs : List UInt8} {s : St} (most : Nat) (n : Int) (h : RAt w g gb bs s) (hb : bs.length ≤ 70368744177664) (hn1 : -9223372036854775808 ≤ n) (hn2 : n ≤ 9223372036854775807) (hgb : bs ≠ [] → gb < w.heap.size) :
    Calls Try.prog 26 #[.pointer (some ⟨g, 0, none⟩), takeV 13 most n] w fun e w' =>
      e = .returned (gotV 0 (listA bs s n).2) ∧ RAt w' g gb bs (listA bs s n).1 ∧ Mod (one g) w w' := by
  obtain ⟨ct, htyp⟩ := h.typ
  have hg := htyp.lt
  have HF := Lib.hid h.fit
  have H0 := fun o1 o2 => Lib.hid (h.mod (S := no) (((Mod.refl no w).alloc o1).alloc o2) (fun c => c) (fun _ c => c))
  have HBL := Lib.hid hb
  have HN := Lib.hid (And.intro hn1 hn2)
  clear htyp h hb
  unfold takeV
  have hw64 : ¬ n ≤ 0 → IntKind.u64.wrap n = n := fun hh => IntWalk.u64_in _ (by omega)
  by_cases hneg : n ≤ 0
  all_goals
    first | (have hwn := hw64 hneg; clear hw64) | clear hw64
    clear hn1 hn2
    go_enter Try.func26, Try.ntmps26
    go_wp2_with fail
    refine (rvar_n n.toNat (by omega) (H0 _ _).out (by have := HN.out; omega)).mono ?_
    rintro e w1 ⟨rfl, D1, M1⟩
    obtain ⟨hN64, q, hI⟩ := tk_start (W0 := tkW w most n) HF.out M1 D1
    obtain ⟨N, hN⟩ : ∃ N, N = (varA bs s n.toNat).2 := ⟨_, rfl⟩
    rw [← hN] at hN64 hI ⊢
    have HI := Lib.hid hI
    clear hI D1 M1 hN
    go_wp2_with fail
    go_loopw [8, 9] (TkInv (tkW w most n) g gb bs s n q N) (fun _ i _ => N - (intOf i).toNat)
    case atStart => exact HI.out
    case round =>
      obtain ⟨j, xs, hjN, rfl, hown, hj, M, hst⟩ := hrel
      have HM := Lib.hid M
      have hb4 := got_blk (w := w) hg M
      have c0 := hb4.cell 0
      have c1 := hb4.cell 1
      have f0 := hb4.free 0
      have f1 := hb4.free 1
      simp at c0 c1
      rcases hst with ⟨L, hqj, rfl, hl⟩ | ⟨a, c, D, hl⟩
      · have HL := Lib.hid L
        obtain ⟨c2, cp⟩ := RAt.goes (show RAt wr g gb bs (.live (q + j)) from L)
        have HO := Lib.hid hown
        obtain ⟨A1, k1, rfl⟩ := own_form hown
        have HLL := Lib.hid hl
        clear L hown hl cp
        by_cases hr : j = N
        · subst hr
          have HT := Lib.hid (show listA bs s n = (.live (q + j), (bs.drop q).take j) by rw [HLL.out, if_pos (by omega)])
          have hlen : ((bs.drop q).take j).length = j := by simp; omega
          have hcv := conv_string (RdT.of_own (by rw [hlen]; exact HO.out)) j k1 hlen.symm
          clear hlen
          go_wp2_with fail
          exact got_done hb4 _ Try.results26 _ rfl rfl _ (by rw [HT.out]; exact ⟨rfl, rgot hg hgb (show RAt wr g gb bs (.live (q + j)) from HL.out) _ _, got_mod HM.out _ _⟩)
        · have hlt : (j : Int) < (N : Int) := by omega
          obtain ⟨i0, hi, hz0, hz1, hz2⟩ := info_parts u8_info
          have HI0 := Lib.hid (And.intro hi (And.intro hz0 (And.intro hz1 hz2)))
          have HX := Lib.hid (And.intro hjN (And.intro hj (And.intro hN64 (And.intro hqj hr))))
          by_cases hql : q + j < bs.length
          · have HQ := Lib.hid hql
            obtain ⟨b, hbv⟩ : ∃ b, bs[q + j]? = some b := ⟨_, List.getElem?_eq_getElem hql⟩
            have HB := Lib.hid hbv
            have hfix := fixed_one b HL.out hbv HBL.out
            have HFX := Lib.hid hfix
            have hb255 := b.toNat_lt
            have ewb : IntKind.u8.wrap (b.toNat : Int) = (b.toNat : Int) := by simp [IntKind.wrap, IntKind.bits, IntKind.signed]; omega
            have ej : IntKind.u64.wrap ((j : Int) + 1) = ((j + 1 : Nat) : Int) := by rw [IntWalk.u64_in _ (by omega)]; rfl
            clear hjN hj hN64 hqj hr hql hbv hfix hb255 hi hz0 hz1 hz2
            go_wp2_with (first
              | (go_at_call 73; refine HFX.out.mono ?_; rintro e w2 ⟨rfl, L2, M2⟩; have HL2 := Lib.hid L2; clear L2)
              | (at_builtin; refine wpList_put1 rfl (.tmp 90) (.tmp 94) 23 rfl (tkW w most n).heap.size 5 i0 (.int .u8 0) 1 Try.underlying23 HI0.out.1 HI0.out.2.1 HI0.out.2.2.1 HI0.out.2.2.2 rfl w2 A1 k1 j _ (.int .u8 (b.toNat : Int)) rfl rfl (own_mod HO.out M2 (fun k hk c => absurd (show k = g from c) (by simp [tkW] at hk; omega))) rfl (by have := HX.out; have := HBL.out; simp only [maxLen]; omega) (by have := HX.out; have := HBL.out; omega) (by have := HM.out.size; have := M2.size; omega) ?_; rintro A2 c2 w3 hown3 hM3; have HO3 := Lib.hid hown3; clear hown3))
            go_roundw
            case rel =>
              obtain ⟨x1, x2, x3, x4, x5⟩ := HX.out
              have x8 := HQ.out
              refine ⟨j + 1, (bs.drop q).take (j + 1), by omega, by first | rfl | rw [ej], ?_, by omega, (HM.out.and_then M2).trans (hM3.mono (S' := rowS w2 (tkW w most n).heap.size 5) (fun _ _ c => c)) ?_, .inl ⟨?_, by omega, rfl, HLL.out⟩⟩
              · rw [take_snoc bs q j b HB.out]; exact HO3.out
              · intro k hk c; have := c.1; simp [tkW] at hk this; omega
              · exact RLive.mod HL2.out hM3 (fun c => by have := c.1; simp [tkW] at this; omega) (fun hne c => by have := c.1; have := hgb hne; simp [tkW] at *; omega)
            case measure => have := HX.out; simp [intOf]; omega
          · have hfix := fixed_end HL.out (by omega) HBL.out
            have HFX := Lib.hid hfix
            have HQ := Lib.hid hql
            have ej : IntKind.u64.wrap ((j : Int) + 1) = ((j + 1 : Nat) : Int) := by rw [IntWalk.u64_in _ (by omega)]; rfl
            clear hjN hj hN64 hqj hr hql hfix hi hz0 hz1 hz2
            go_wp2_with (first
              | (go_at_call 73; refine HFX.out.mono ?_; rintro e w2 ⟨rfl, L2, M2⟩; have HL2 := Lib.hid L2; clear L2)
              | (at_builtin; refine wpList_put1 rfl (.tmp 90) (.tmp 94) 23 rfl (tkW w most n).heap.size 5 i0 (.int .u8 0) 1 Try.underlying23 HI0.out.1 HI0.out.2.1 HI0.out.2.2.1 HI0.out.2.2.2 rfl w2 A1 k1 j _ (.int .u8 0) rfl rfl (own_mod HO.out M2 (fun k hk c => absurd (show k = g from c) (by simp [tkW] at hk; omega))) rfl (by have := HX.out; have := HBL.out; simp only [maxLen]; omega) (by have := HX.out; have := HBL.out; omega) (by have := HM.out.size; have := M2.size; omega) ?_; rintro A2 c2 w3 hown3 hM3; have HO3 := Lib.hid hown3; clear hown3))
            go_roundw
            case rel =>
              obtain ⟨x1, x2, x3, x4, x5⟩ := HX.out
              have x8 := HQ.out
              refine ⟨j + 1, (bs.drop q).take j ++ [0], by omega, by first | rfl | rw [ej], ?_, by omega, (HM.out.and_then M2).trans (hM3.mono (S' := rowS w2 (tkW w most n).heap.size 5) (fun _ _ c => c)) ?_, .inr ⟨bs.length, 10, ?_, ?_⟩⟩
              · rw [bvs_append]; exact HO3.out
              · intro k hk c; have := c.1; simp [tkW] at hk this; omega
              · exact RDead.mod HL2.out hM3 (fun c => by have := c.1; simp [tkW] at this; omega)
              · rw [HLL.out, if_neg (by omega)]
            case measure => have := HX.out; simp [intOf]; omega
      · have c2 := RAt.stopped (gb := gb) (show RAt wr g gb bs (.dead a c) from D)
        have HD := Lib.hid (show RAt wr g gb bs (.dead a c) from D)
        have HT := Lib.hid hl
        clear D hl hown
        by_cases hr : j < N
        all_goals
          go_wp2_with fail
          exact got_done hb4 _ Try.results26 _ rfl rfl _ (by rw [HT.out]; exact ⟨rfl, rgot hg hgb HD.out _ _, got_mod HM.out _ _⟩)

end Go.Proofs.Ytpfkcejndjnbhaa.RD
