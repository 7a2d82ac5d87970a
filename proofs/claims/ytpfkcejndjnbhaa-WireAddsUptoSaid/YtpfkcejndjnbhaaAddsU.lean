/- The law WireAdds: the second loop and what stands behind it. -/
import Derived.Test.YtpfkcejndjnbhaaAddsT
import Derived.StillTailTactics
namespace Go.Proofs.Ytpfkcejndjnbhaa.AD
open Go.RowKit Mem WM
open Go.Proofs.Ytpfkcejndjnbhaa.WD (RdT RdB u8_info own_mod key_size rowS conv_string wpList_put1)
open Go.Proofs.Ytpfkcejndjnbhaa.OP (AddI AddAt allB allB_0 allB_succ Elems cell_lt atA copied_r)
open Go.Proofs.Ytpfkcejndjnbhaa.EN
open Go.Proofs.Ytpfkcejndjnbhaa.BK (conv_rds add_range range_mod add_info allB_le)
open Go.Proofs.Ytpfkcejndjnbhaa.ON (wpList_laid addL_len)
set_option linter.unusedVariables false
set_option linter.unusedSimpArgs false


noncomputable def loop2C : Code := sR (sR (sR (sR (inL (sL (sR roundC))))))

set_option maxRecDepth 100000 in
set_option maxHeartbeats 4000000 in
theorem loop2_any {W : World} {A : Option Addr} {n c : Nat} {E : Nat → List Value} {F : Nat → AddI} (hE : Elems W A n 36 E) (hn : n ≤ 1048576)
    (hF : ∀ i, i < n → AddAt W (E i) (F i) ∧ (F i).ok ∧ (F i).S.length + (F i).B.length ≤ 1048576) (hall : (allB F n).length ≤ 60000000)
    {A2 : Option Addr} {m c2 : Nat} {E2 : Nat → List Value} (hE2 : Elems W A2 m 1 E2) (hm : m ≤ 1048576) (hT : ∀ i, i < m → ∃ b : Bool, E2 i = [.bool b])
    {k : Nat} (hlt : k < n) {vk vw : Value} {w7 : World} {A6 A7 Aa : Option Addr} {c6 ca g : Nat} {L : List KR} (hL : L.length ≤ k ∧ ∀ x ∈ L, x.l.length ≤ 60000000)
    (hrow : RowA w7 A6 c6 (F k).B) (hcc : ∀ w', Mod (atA A6) w7 w' → w'.cell? ⟨g, 3, none⟩ = some (.slice A6 (F k).B.length c6))
    (hp : ∀ w', Mod (atA A6) w7 w' → Hid (AddsP W F W.heap.size k vk vw w' A7 Aa ca L))
    (d2 d3 d4 d11 d12 d13 d14 d15 d16 d17 d18 d19 d20 d21 d22 d23 d24 d25 d26 d27 d28 d29 d30 d31 d32 d33 d34 d35 d36 d37 d38 d39 d40 d41 d42 d43 d44 d45 d46 d47 d48 d49 d50 d51 d52 d53 d54 d55 d56 d57 d58 d59 d60 d61 d62 d63 d64 d65 d66 d67 d68 d69 d70 d71 d72 d73 d74 d75 d76 d77 d78 d79 d80 d81 d82 d83 d84 d85 d86 d87 d88 d89 d90 d91 d92 d93 d94 d95 d96 d97 d98 d99 d100 d101 d102 d103 d104 d105 d106 d107 d108 d109 d110 d111 d112 d113 d114 d115 d116 d117 d118 d119 d120 : Value) (Q : Exit → Act → World → Prop)
    (hexit : ∀ (u6 u7 u8 u11 u12 u50 u51 u52 u53 u54 u55 u56 u57 u58 u59 u60 u61 u62 u63 u64 u65 u66 u67 u68 u69 u70 u71 u72 u73 u74 u75 u76 u77 u78 u79 u80 u81 u82 u83 u84 u85 u86 u87 u88 u89 u90 u91 u92 u93 : Value) (w' : World), Handed W F (k + 1) u6 u7 u8 w' → Q .normal ⟨List.toArray ((.slice A n c) :: (.slice A2 m c2) :: d2 :: d3 :: d4 :: (.pointer (some ⟨W.heap.size, 0, none⟩)) :: u6 :: u7 :: u8 :: (.int .i64 (k : Int)) :: (.pointer (some ⟨g, 0, none⟩)) :: u11 :: u12 :: d13 :: d14 :: d15 :: d16 :: d17 :: d18 :: d19 :: d20 :: d21 :: d22 :: d23 :: d24 :: d25 :: d26 :: d27 :: d28 :: d29 :: d30 :: d31 :: d32 :: d33 :: d34 :: d35 :: d36 :: d37 :: d38 :: d39 :: d40 :: d41 :: d42 :: d43 :: d44 :: d45 :: d46 :: d47 :: d48 :: d49 :: u50 :: u51 :: u52 :: u53 :: u54 :: u55 :: u56 :: u57 :: u58 :: u59 :: u60 :: u61 :: u62 :: u63 :: u64 :: u65 :: u66 :: u67 :: u68 :: u69 :: u70 :: u71 :: u72 :: u73 :: u74 :: u75 :: u76 :: u77 :: u78 :: u79 :: u80 :: u81 :: u82 :: u83 :: u84 :: u85 :: u86 :: u87 :: u88 :: u89 :: u90 :: u91 :: u92 :: u93 :: d94 :: d95 :: d96 :: d97 :: d98 :: d99 :: d100 :: d101 :: d102 :: d103 :: d104 :: d105 :: d106 :: d107 :: d108 :: d109 :: d110 :: d111 :: d112 :: d113 :: d114 :: d115 :: d116 :: d117 :: d118 :: d119 :: d120 :: []), []⟩ w') :
    Code.wp Try.prog loop2C Q ⟨List.toArray ((.slice A n c) :: (.slice A2 m c2) :: d2 :: d3 :: d4 :: (.pointer (some ⟨W.heap.size, 0, none⟩)) :: (.slice Aa (allB F k).length ca) :: (vk) :: (vw) :: (.int .i64 (k : Int)) :: (.pointer (some ⟨g, 0, none⟩)) :: d11 :: d12 :: d13 :: d14 :: d15 :: d16 :: d17 :: d18 :: d19 :: d20 :: d21 :: d22 :: d23 :: d24 :: d25 :: d26 :: d27 :: d28 :: d29 :: d30 :: d31 :: d32 :: d33 :: d34 :: d35 :: d36 :: d37 :: d38 :: d39 :: d40 :: d41 :: d42 :: d43 :: d44 :: d45 :: d46 :: d47 :: d48 :: d49 :: d50 :: d51 :: d52 :: d53 :: d54 :: d55 :: d56 :: d57 :: d58 :: d59 :: d60 :: d61 :: d62 :: d63 :: d64 :: d65 :: d66 :: d67 :: d68 :: d69 :: d70 :: d71 :: d72 :: d73 :: d74 :: d75 :: d76 :: d77 :: d78 :: d79 :: d80 :: d81 :: d82 :: d83 :: d84 :: d85 :: d86 :: d87 :: d88 :: d89 :: d90 :: d91 :: d92 :: d93 :: d94 :: d95 :: d96 :: d97 :: d98 :: d99 :: d100 :: d101 :: d102 :: d103 :: d104 :: d105 :: d106 :: d107 :: d108 :: d109 :: d110 :: d111 :: d112 :: d113 :: d114 :: d115 :: d116 :: d117 :: d118 :: d119 :: d120 :: []), []⟩ w7 := by
  have HE := Lib.hid hE
  have HF := Lib.hid hF
  have HALL := Lib.hid hall
  have HE2 := Lib.hid hE2
  have HT := Lib.hid hT
  have HLE := Lib.hid hexit
  have HLK := Lib.hid hL
  have HROW7 := Lib.hid hrow
  have HCC := Lib.hid hcc
  have HP := hp
  have HOK := Lib.hid (And.intro (hF k hlt).2.1 (And.intro (hF k hlt).2.2 trivial))
  have HKN := Lib.hid (And.intro (show k ≤ n by omega) (And.intro hn (And.intro hm (And.intro hlt (And.intro trivial trivial)))))
  clear hE hF hall hE2 hT hexit hL hrow hcc hp hlt hn hm
  conv => arg 2; whnf
  go_wp2_with fail
  rename (∀ (a : Act) (w : World), Code.wp _ (Code.seq (Code.region 19 _ _) _) _ a w → _) => hK2
  have HK2 := Lib.hid hK2
  clear hK2
  go_loopw [11] (BumpA w7 A6 c6 (F k).B.length) (fun i _ => (F k).B.length - (intOf i).toNat)
  case atStart => exact ⟨0, _, Nat.zero_le _, rfl, HROW7.out, WD.Nums.bvs _, Mod.refl _ _⟩
  case round =>
    obtain ⟨j, xs, hj, rfl, hown, hnum, M⟩ := hrel
    have cc7 := HCC.out _ M
    by_cases hlj : j < (F k).B.length
    · obtain ⟨b6, rfl⟩ : ∃ b6, A6 = some ⟨b6, 0, none⟩ := by
        rcases hown.2 with ⟨hv, h0⟩ | ⟨g', cap, cur, hv, _⟩
        · omega
        · injection hv with hv; exact ⟨_, hv⟩
      obtain ⟨cur, hb, hcur⟩ : ∃ cur, Blk _ b6 5 cur ∧ cur[j]? = xs[j]? := by
        rcases hown.2 with ⟨hv, h0⟩ | ⟨g', cap, cur, hv, _, hb, _, _, _, h4⟩
        · cases hv
        · injection hv with hv
          injection hv with hv
          injection hv with hv
          subst hv
          refine ⟨cur, hb, ?_⟩
          rw [← h4, List.getElem?_take, if_pos (by omega)]; simp
      have hxl : xs.length = (F k).B.length := by have := hown.1; omega
      obtain ⟨t, ht⟩ : ∃ t : Int, xs[j]? = some (.int .u8 t) := by
        obtain ⟨t, ht⟩ := hnum (xs[j]'(by omega)) (List.getElem_mem _)
        exact ⟨t, by rw [List.getElem?_eq_getElem (by omega), ht]⟩
      have ck := hb.cell j
      rw [hcur, ht] at ck
      have fk := hb.free j
      have hj64 : (j : Int) < 1048576 := by have := HOK.out.2.1; omega
      have hjl : (j : Int) < ((F k).B.length : Int) := by omega
      have hj0 : (0 : Int) ≤ (j : Int) := by omega
      have HO2 := Lib.hid hown
      have HMJ := Lib.hid M
      have HJJ := Lib.hid (And.intro hj (And.intro hlj hnum))
      clear hown hcur ht hxl M hb hj hlj hnum
      go_wp2_with fail
      go_still_tail 10, (by kernel_rfl)
      change wpList _ _ _ _ _ wr.drew
      go_wp2_with fail
      obtain ⟨hj, hlj, hnum⟩ := HJJ.out
      have hod := own_mod (S := no) HO2.out ((Mod.refl no _).drew) (fun _ _ c => c)
      obtain ⟨o2', m2'⟩ := WD.own_set hod j (.int .u8 (IntKind.u8.wrap (t + 1)))
      refine ⟨⟨j + 1, _, hlj, by go_num, o2', hnum.set j _, HMJ.out.drew.set (p := ⟨b6, j, none⟩) (fun _ => rfl) _⟩, ?_⟩
      simp [intOf]; omega
    · obtain rfl : j = (F k).B.length := by omega
      have HP8 := HP _ M
      have HLK2 := HLK
      have hw64 : wrap64 ((k : Int) + 1) = (k : Int) + 1 := IntWalk.wrap64_in _ (by have := HKN.out.2.1; have := HKN.out.2.2.2.1; omega)
      have hkn' : (k : Int) < (n : Int) := by have := HKN.out.2.2.2.1; omega
      clear hown hnum M HCC HP hj hlj
      go_wp2_with fail
      obtain ⟨hk, hn, hm, hlt, hqr, hnq⟩ := HKN.out
      refine HK2.out _ _ (tail_any HE.out hn HF.out HALL.out HE2.out hm HT.out hlt HP8.out HLK.out _ _ _ _ _ _ _ _ _ _ _ _ _ _ _ _ _ _ _ _ _ _ _ _ _ _ _ _ _ _ _ _ _ _ _ _ _ _ _ _ _ _ _ _ _ _ _ _ _ _ _ _ _ _ _ _ _ _ _ _ _ _ _ _ _ _ _ _ _ _ _ _ _ _ _ _ _ _ _ _ _ _ _ _ _ _ _ _ _ _ _ _ _ _ _ _ _ _ _ _ _ _ _ _ _ _ _ _ _ _ _ _ _ _ _ ?_)
      intro x6 x7 x8 x12 x67 x68 x69 x70 x71 x72 x73 x74 x75 x76 x77 x78 x79 x80 x81 x82 x83 x84 x85 x86 x87 x88 x89 x90 x91 x92 x93 w9 hh
      exact HLE.out x6 x7 x8 _ _ _ _ _ _ _ _ _ _ _ _ _ _ _ _ _ _ _ _ _ _ _ _ _ _ _ _ _ _ _ _ _ _ _ _ _ _ _ _ _ _ _ _ _ _ w9 hh

end Go.Proofs.Ytpfkcejndjnbhaa.AD
