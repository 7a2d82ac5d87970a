/- The law WireEach: the first loop with what stands behind it, and the law (printed by wireeachl.py). -/
import Derived.Test.YtpfkcejndjnbhaaEachT
import Derived.StillTailTactics
namespace Go.Proofs.Ytpfkcejndjnbhaa.EC
open Go.RowKit Mem WM
open Go.Proofs.Ytpfkcejndjnbhaa.WD (RdT RdB u8_info own_mod LiveAt DeadAt DecAt rowS conv_string wpList_put1 end_any endV)
open Go.Proofs.Ytpfkcejndjnbhaa.RD (RLive RDead RAt stands_any fault_as rraw_any rvar_n)
open Go.Proofs.Ytpfkcejndjnbhaa.OP (ropen_r rds_mod)
set_option linter.unusedVariables false
set_option linter.unusedSimpArgs false

/-- What the document's loop carries. -/
def RefI (w0 : World) (r rb : Nat) (l Z : List UInt8) (s0 : St) (N : Nat) (v asked i sz : Value) (wr : World) : Prop :=
  ∃ k : Nat, k ≤ N ∧ i = .int .u64 (k : Int) ∧ asked = .int .i64 (k : Int) ∧ wr.ownsRow w0.heap.size 9 1 v k ((eachE l Z s0 k).2.map tx) ∧ RAt wr r rb l (eachE l Z s0 k).1 ∧ Mod (one r) w0 wr ∧ ∀ j, j < k → ∃ p, (eachE l Z s0 j).1 = .live p

theorem lss_u64 (W : World) (a b : Nat) (h : a < b) : (binOp .lss 28 (.int .u64 (a : Int)) (.int .u64 (b : Int))).run Try.prog W = .ok (.bool true) W := by
  have : (a : Int) < (b : Int) := by omega
  simp [go_sem, this]

theorem u64_succ {k N : Nat} (h : k < N) (hN : N < 18446744073709551616) : IntKind.u64.wrap ((k : Int) + 1) = (k : Int) + 1 := IntWalk.u64_in _ (by omega)
theorem i64_sum {k a b : Nat} (h : k ≤ a + b) (ha : a ≤ 1048576) (hb : b ≤ 1048576) : wrap64 ((k : Int) + 1) = (k : Int) + 1 ∧ wrap64 ((a : Int) + (b : Int)) = (a : Int) + (b : Int) ∧ wrap64 ((a : Int) + (b : Int) + 8) = (a : Int) + (b : Int) + 8 ∧ decide ((a : Int) + (b : Int) + 8 < (k : Int) + 1) = false :=
  ⟨IntWalk.wrap64_in _ (by omega), IntWalk.wrap64_in _ (by omega), IntWalk.wrap64_in _ (by omega), by rw [decide_eq_false_iff_not]; omega⟩
theorem dec_far {w w' : World} {g gb r : Nat} {l : List UInt8} {s : St} {cs : Array Value} (h : DecAt w g gb l s) (hr : Blk w r 52 cs) (hm : Mod (one r) w w') : DecAt w' g gb l s := by
  obtain ⟨ct, hct⟩ := h.typ
  have hgk : ¬ one r g := fun e => by
    have e : g = r := e
    subst e; exact absurd (hct.same hr).1 (by decide)
  cases s with
  | live p =>
    have h : LiveAt w g gb l p := h
    refine LiveAt.mod h hm hgk fun hne e => ?_
    obtain ⟨A, c, _, _, _, hb, _⟩ := h
    obtain ⟨o, cs', _, hb', _⟩ := hb hne
    have e : gb = r := e
    subst e; exact absurd (hb'.same hr).1 (by decide)
  | dead a e =>
    refine DeadAt.mod (show DeadAt w g l a e from h) hm hgk fun k cs' hb' e => ?_
    have e : k = r := e
    subst e; exact absurd (hb'.same hr).1 (by decide)
theorem tx_far {w w' : World} {base r : Nat} {v : Value} {n : Nat} {xs : List Value} {cs : Array Value} (h : w.ownsRow base 9 1 v n xs) (hr : Blk w r 52 cs) (hm : Mod (one r) w w') : w'.ownsRow base 9 1 v n xs := by
  refine ⟨h.1, ?_⟩
  rcases h.2 with h2 | ⟨g, cap, cur, hv, hg, hb, r'⟩
  · exact .inl h2
  · refine .inr ⟨g, cap, cur, hv, hg, Blk.mod (show Blk w g 9 cur from hb) hm (fun e => ?_), r'⟩
    have hb : Blk w g 9 cur := hb
    have e : g = r := e
    subst e; exact absurd (hb.same hr).1 (by decide)

set_option maxRecDepth 100000 in
set_option maxHeartbeats 4000000 in
theorem e1_any {W : World} {Ab Az A1 : Option Addr} {cb cz c1 base1 g gb r rb kc kz N K : Nat} {l Z : List UInt8} {s0 : St} {n : Int} {w0 : World} (hb : Rds W 1 Ab l.length (bvs l)) (hl : l.length ≤ 1048576) (hz : Rds W 1 Az Z.length (bvs Z)) (hZ : Z.length ≤ 1048576) (old : Mod no W w0)
    (D : DecAt w0 g gb l (eachE l Z s0 K).1) (Rr : RAt w0 r rb l s0) (G : RD.Good s0) (hrr : W.heap.size ≤ r) (hkz0 : W.heap.size ≤ kz) (hrbl : l ≠ [] → rb < w0.heap.size) (hE : Ends l Z s0 N K) (hN : N < 18446744073709551616)
    (hk : Blk w0 kc 3 #[.int .i64 (K : Int)]) (hkz : Blk w0 kz 23 #[.slice Az Z.length cz])
    (o1 : w0.ownsRow base1 9 1 (.slice A1 (eachR l Z s0 K).length c1) (eachR l Z s0 K).length ((eachR l Z s0 K).map tx))
    (d2 d3 d4 d6 d11 d15 d16 d17 d18 d19 d20 d21 d22 d23 d24 d25 d26 d27 d28 d29 d30 d31 d32 d33 d34 d35 d36 d37 d38 d39 d40 d41 d42 d43 d44 d45 d46 d47 d48 d49 d50 d51 d52 d53 d54 d55 d56 d57 d58 d59 d60 d61 d62 d63 d64 d65 d66 d67 d68 d69 d70 d71 d72 d73 d74 d75 d76 d77 d78 d79 d80 d81 d82 d83 d84 d85 d86 d87 d88 d89 d90 d91 d92 d93 d94 d95 d96 d97 d98 d99 d100 d101 d102 d103 d104 d105 d106 d107 d108 d109 d110 d111 d112 d113 d114 d115 d116 d117 d118 d119 d120 d121 d122 d123 d124 d125 d126 d127 d128 d129 d130 d131 d132 d133 d134 d135 d136 d137 d138 d139 : Value) (Q : Exit → Act → World → Prop)
    (hexit : ∀ (u6 u13 u14 u15 u16 u17 u18 u19 u20 u21 u22 u38 u39 u40 u41 u42 u43 u44 u45 u46 u47 u48 u49 u50 u51 u52 u53 u54 u55 u56 u57 u58 u59 u60 u61 u62 u63 u64 u65 u66 u67 u68 u69 u70 u71 u72 u73 u74 u75 u76 u77 u78 u79 u80 u81 u82 u83 u84 u85 u86 u87 u88 u89 u90 u91 u92 u93 u94 u95 u96 u97 u98 u99 u100 u101 u102 u103 u104 u105 u106 u107 u108 u109 u110 u111 u112 u113 u114 u115 u116 u117 u118 u119 u120 u121 u122 u123 u124 u125 u126 u127 u128 u129 u130 u131 u132 u133 u134 u135 u136 u137 u138 u139 : Value) (w' : World), u6 = .bool true → Mod no W w' → Q .ret ⟨List.toArray ((.slice Ab l.length cb) :: (.int .i64 n) :: d2 :: d3 :: d4 :: (.pointer (some ⟨kz, 0, none⟩)) :: u6 :: (.pointer (some ⟨g, 0, none⟩)) :: (.pointer (some ⟨r, 0, none⟩)) :: (.pointer (some ⟨kc, 0, none⟩)) :: (.slice A1 (eachR l Z s0 K).length c1) :: d11 :: (.int .u64 (N : Int)) :: u13 :: u14 :: u15 :: u16 :: u17 :: u18 :: u19 :: u20 :: u21 :: u22 :: d23 :: d24 :: d25 :: d26 :: d27 :: d28 :: d29 :: d30 :: d31 :: d32 :: d33 :: d34 :: d35 :: d36 :: d37 :: u38 :: u39 :: u40 :: u41 :: u42 :: u43 :: u44 :: u45 :: u46 :: u47 :: u48 :: u49 :: u50 :: u51 :: u52 :: u53 :: u54 :: u55 :: u56 :: u57 :: u58 :: u59 :: u60 :: u61 :: u62 :: u63 :: u64 :: u65 :: u66 :: u67 :: u68 :: u69 :: u70 :: u71 :: u72 :: u73 :: u74 :: u75 :: u76 :: u77 :: u78 :: u79 :: u80 :: u81 :: u82 :: u83 :: u84 :: u85 :: u86 :: u87 :: u88 :: u89 :: u90 :: u91 :: u92 :: u93 :: u94 :: u95 :: u96 :: u97 :: u98 :: u99 :: u100 :: u101 :: u102 :: u103 :: u104 :: u105 :: u106 :: u107 :: u108 :: u109 :: u110 :: u111 :: u112 :: u113 :: u114 :: u115 :: u116 :: u117 :: u118 :: u119 :: u120 :: u121 :: u122 :: u123 :: u124 :: u125 :: u126 :: u127 :: u128 :: u129 :: u130 :: u131 :: u132 :: u133 :: u134 :: u135 :: u136 :: u137 :: u138 :: u139 :: []), []⟩ w') :
    Code.wp Try.prog e1C Q ⟨List.toArray ((.slice Ab l.length cb) :: (.int .i64 n) :: d2 :: d3 :: d4 :: (.pointer (some ⟨kz, 0, none⟩)) :: d6 :: (.pointer (some ⟨g, 0, none⟩)) :: (.pointer (some ⟨r, 0, none⟩)) :: (.pointer (some ⟨kc, 0, none⟩)) :: (.slice A1 (eachR l Z s0 K).length c1) :: d11 :: (.int .u64 (N : Int)) :: (.slice none 0 0) :: (.int .i64 0) :: d15 :: d16 :: d17 :: d18 :: d19 :: d20 :: d21 :: d22 :: d23 :: d24 :: d25 :: d26 :: d27 :: d28 :: d29 :: d30 :: d31 :: d32 :: d33 :: d34 :: d35 :: d36 :: d37 :: d38 :: d39 :: d40 :: d41 :: d42 :: d43 :: d44 :: d45 :: d46 :: d47 :: d48 :: d49 :: d50 :: d51 :: d52 :: d53 :: d54 :: d55 :: d56 :: d57 :: d58 :: d59 :: d60 :: d61 :: d62 :: d63 :: d64 :: d65 :: d66 :: d67 :: d68 :: d69 :: d70 :: d71 :: d72 :: d73 :: d74 :: d75 :: d76 :: d77 :: d78 :: d79 :: d80 :: d81 :: d82 :: d83 :: d84 :: d85 :: d86 :: d87 :: d88 :: d89 :: d90 :: d91 :: d92 :: d93 :: d94 :: d95 :: d96 :: d97 :: d98 :: d99 :: d100 :: d101 :: d102 :: d103 :: d104 :: d105 :: d106 :: d107 :: d108 :: d109 :: d110 :: d111 :: d112 :: d113 :: d114 :: d115 :: d116 :: d117 :: d118 :: d119 :: d120 :: d121 :: d122 :: d123 :: d124 :: d125 :: d126 :: d127 :: d128 :: d129 :: d130 :: d131 :: d132 :: d133 :: d134 :: d135 :: d136 :: d137 :: d138 :: d139 :: []), []⟩ w0 := by
  have HLE := Lib.hid hexit
  have hfit : Fit l s0 := Rr.fit
  obtain ⟨cr, hcr⟩ := Rr.typ
  have hrl := hcr.lt
  have HX := Lib.hid (And.intro hl (And.intro hZ (And.intro hrr (And.intro hrl hN))))
  have HB := Lib.hid (And.intro hb (And.intro hz old))
  have HO := Lib.hid o1
  have HD := Lib.hid (And.intro D (And.intro G (And.intro hk hkz)))
  have HR0 := Lib.hid (And.intro Rr (And.intro hfit (And.intro hrbl hcr)))
  have HE := Lib.hid hE
  have HNE := Lib.hid (show (¬ one r kc) ∧ ¬ one r kz from ⟨fun c => by have c : kc = r := c; subst c; exact absurd (hk.same hcr).1 (by decide), fun c => by have c : kz = r := c; subst c; exact absurd (hkz.same hcr).1 (by decide)⟩)
  clear hexit hb hl hz hZ old o1 D Rr G hrr hkz0 hrbl hE hN hk hkz hfit hcr hrl
  show Code.wp Try.prog (Code.seq (sL e1C) e2C) Q _ _
  refine wp_seq_k fun K1 hK1 => ?_
  have HK1 := Lib.hid hK1
  clear hK1
  conv => arg 2; whnf
  go_wp2_with fail
  go_loopw [13, 14, 15, 16] (RefI w0 r rb l Z s0 N) (fun _ _ i _ _ => N - (intOf i).toNat)
  case atStart => exact ⟨0, Nat.zero_le _, rfl, rfl, ⟨rfl, .inl ⟨rfl, rfl⟩⟩, HR0.out.1, Mod.refl _ _, fun j hj => by omega⟩
  case round =>
    obtain ⟨k, hkN, rfl, rfl, hown, hRR, M, hlv⟩ := hrel
    obtain ⟨A2, c2, rfl⟩ := own_form hown
    have HO2 := Lib.hid hown
    have HM := Lib.hid M
    have HLV := Lib.hid hlv
    have HKN := Lib.hid hkN
    have HBK := Lib.hid (show k ≤ l.length + Z.length + 1 from by
      rcases Nat.eq_zero_or_pos k with h0 | h0
      · omega
      · obtain ⟨p, hp⟩ := hlv (k - 1) (by omega)
        have := eachE_bound HR0.out.2.1 hp
        omega)
    clear hown M hlv
    by_cases hkn : k = N
    · have hen : Ends l Z s0 N k := ⟨by omega, .inl hkn, HLV.out⟩
      obtain rfl : k = K := (HE.out.same hen).symm
      have hlt : ¬ (k : Int) < (N : Int) := by omega
      have HRR := Lib.hid hRR
      clear hRR hen hkN hkn
      have HNE := HNE
      have HRL := Lib.hid (show (eachR l Z s0 k).length ≤ 100000000 from by
        unfold eachR
        have := HBK.out
        have := HX.out
        split
        · rw [eachE_len]; omega
        · simp)
      have HCC := Lib.hid (show (∃ p, (eachE l Z s0 k).1 = .live p) ∧ eachR l Z s0 k = (eachE l Z s0 k).2 ∨ (∃ a c, (eachE l Z s0 k).1 = .dead a c) ∧ eachR l Z s0 k = [] from by
        cases e : (eachE l Z s0 k).1 with
        | live p => exact .inl ⟨⟨p, rfl⟩, eachR_live e⟩
        | dead a c => exact .inr ⟨⟨a, c, rfl⟩, eachR_dead e⟩)
      go_wp2_with fail
      have hfar := HM.out
      refine HK1.out _ _ (e2_any HB.out.1 HX.out.1 (HB.out.2.2.trans hfar fun b hb c => by have c : b = r := c; have := HX.out; omega) (dec_far HD.out.1 HR0.out.2.2.2 hfar) HRR.out (eachE_good HD.out.2.1 _) (HD.out.2.2.1.mod hfar (fun c => absurd c HNE.out.1)) (tx_far HO.out HR0.out.2.2.2 hfar) HO2.out (eachE_len _ _ _ _) HRL.out HCC.out _ _ _ _ _ _ _ _ _ _ _ _ _ _ _ _ _ _ _ _ _ _ _ _ _ _ _ _ _ _ _ _ _ _ _ _ _ _ _ _ _ _ _ _ _ _ _ _ _ _ _ _ _ _ _ _ _ _ _ _ _ _ _ _ _ _ _ _ _ _ _ _ _ _ _ _ _ _ _ _ _ _ _ _ _ _ _ _ _ _ _ _ _ _ _ _ _ _ _ _ _ _ _ _ _ _ _ _ _ _ _ _ _ _ _ _ _ _ _ _ _ _ _ _ _ _ _ _ _ _ _ _ _ ?_)
      intro u6 u13 u17 u18 u19 u20 u21 u22 u77 u78 u79 u80 u81 u82 u83 u84 u85 u86 u87 u88 u89 u90 u91 u92 u93 u94 u95 u96 u97 u98 u99 u100 u101 u102 u103 u104 u105 u106 u107 u108 u109 u110 u111 u112 u113 u114 u115 u116 u117 u118 u119 u120 u121 u122 u123 u124 u125 u126 u127 u128 u129 u130 u131 u132 u133 u134 u135 u136 u137 u138 u139 w' h M
      exact HLE.out _ _ _ _ _ _ _ _ _ _ _ _ _ _ _ _ _ _ _ _ _ _ _ _ _ _ _ _ _ _ _ _ _ _ _ _ _ _ _ _ _ _ _ _ _ _ _ _ _ _ _ _ _ _ _ _ _ _ _ _ _ _ _ _ _ _ _ _ _ _ _ _ _ _ _ _ _ _ _ _ _ _ _ _ _ _ _ _ _ _ _ _ _ _ _ _ _ _ _ _ _ _ _ _ _ _ _ _ _ _ _ _ _ _ h M

    · cases hs : (eachE l Z s0 k).1 with
      | dead a e =>
        have hen : Ends l Z s0 N k := ⟨by omega, .inr ⟨a, e, hs⟩, HLV.out⟩
        obtain rfl : k = K := (HE.out.same hen).symm
        have hlt : (k : Int) < (N : Int) := by omega
        have HRR := Lib.hid hRR
        rw [hs] at hRR
        obtain ⟨A9, c9, p9, hrb, _⟩ : RDead wr r l a e := hRR
        have r2 := hrb.cell 2
        simp at r2
        clear hrb hen hkN hkn hs
        have HNE := HNE
        have HRL := Lib.hid (show (eachR l Z s0 k).length ≤ 100000000 from by
          unfold eachR
          have := HBK.out
          have := HX.out
          split
          · rw [eachE_len]; omega
          · simp)
        have HCC := Lib.hid (show (∃ p, (eachE l Z s0 k).1 = .live p) ∧ eachR l Z s0 k = (eachE l Z s0 k).2 ∨ (∃ a c, (eachE l Z s0 k).1 = .dead a c) ∧ eachR l Z s0 k = [] from by
          cases e : (eachE l Z s0 k).1 with
          | live p => exact .inl ⟨⟨p, rfl⟩, eachR_live e⟩
          | dead a c => exact .inr ⟨⟨a, c, rfl⟩, eachR_dead e⟩)
        go_wp2_with fail
        have hfar := HM.out
        refine HK1.out _ _ (e2_any HB.out.1 HX.out.1 (HB.out.2.2.trans hfar fun b hb c => by have c : b = r := c; have := HX.out; omega) (dec_far HD.out.1 HR0.out.2.2.2 hfar) HRR.out (eachE_good HD.out.2.1 _) (HD.out.2.2.1.mod hfar (fun c => absurd c HNE.out.1)) (tx_far HO.out HR0.out.2.2.2 hfar) HO2.out (eachE_len _ _ _ _) HRL.out HCC.out _ _ _ _ _ _ _ _ _ _ _ _ _ _ _ _ _ _ _ _ _ _ _ _ _ _ _ _ _ _ _ _ _ _ _ _ _ _ _ _ _ _ _ _ _ _ _ _ _ _ _ _ _ _ _ _ _ _ _ _ _ _ _ _ _ _ _ _ _ _ _ _ _ _ _ _ _ _ _ _ _ _ _ _ _ _ _ _ _ _ _ _ _ _ _ _ _ _ _ _ _ _ _ _ _ _ _ _ _ _ _ _ _ _ _ _ _ _ _ _ _ _ _ _ _ _ _ _ _ _ _ _ _ ?_)
        intro u6 u13 u17 u18 u19 u20 u21 u22 u77 u78 u79 u80 u81 u82 u83 u84 u85 u86 u87 u88 u89 u90 u91 u92 u93 u94 u95 u96 u97 u98 u99 u100 u101 u102 u103 u104 u105 u106 u107 u108 u109 u110 u111 u112 u113 u114 u115 u116 u117 u118 u119 u120 u121 u122 u123 u124 u125 u126 u127 u128 u129 u130 u131 u132 u133 u134 u135 u136 u137 u138 u139 w' h M
        exact HLE.out _ _ _ _ _ _ _ _ _ _ _ _ _ _ _ _ _ _ _ _ _ _ _ _ _ _ _ _ _ _ _ _ _ _ _ _ _ _ _ _ _ _ _ _ _ _ _ _ _ _ _ _ _ _ _ _ _ _ _ _ _ _ _ _ _ _ _ _ _ _ _ _ _ _ _ _ _ _ _ _ _ _ _ _ _ _ _ _ _ _ _ _ _ _ _ _ _ _ _ _ _ _ _ _ _ _ _ _ _ _ _ _ _ _ h M

      | live q =>
        have hlt : (k : Int) < (N : Int) := by omega
        have hkN' : k < N := by omega
        rw [hs] at hRR
        have HRR := Lib.hid hRR
        obtain ⟨A9, c9, hrb, _⟩ : RLive wr r rb l q := hRR
        have r2 := hrb.cell 2
        simp at r2
        have HRB := Lib.hid hrb
        have HS := Lib.hid hs
        have hbd := eachE_bound HR0.out.2.1 hs
        have HBD := Lib.hid (And.intro hbd hkN')
        have hkzr := HD.out.2.2.2.mod HM.out (fun c => absurd c HNE.out.2)
        have z1 := hkzr.cell 0
        simp at z1
        have HZZ := Lib.hid (show ∀ w2 w3, Mod (one r) wr w2 → Mod (rowS w2 w0.heap.size 9) w2 w3 → w3.cell? ⟨kz, 0, none⟩ = some (.slice Az Z.length cz) from fun w2 w3 m2 m3 => by
          have h2 := hkzr.mod m2 (fun c => absurd c HNE.out.2)
          have h3 := h2.mod m3 (fun c => by
            obtain ⟨_, cs, hc⟩ := c
            exact absurd (hc.same h2).1 (by decide))
          have := h3.cell 0
          simpa using this)
        have hx := HX.out
        have HWW := Lib.hid (And.intro (u64_succ hkN' hx.2.2.2.2) (i64_sum hbd hx.1 hx.2.1))
        have HP1 := Lib.hid (show k + 1 ≤ maxLen ∧ (k + 1) * 16 ≤ 140737488355328 from ⟨by simp only [maxLen]; omega, by omega⟩)
        have hk0 : (0 : Int) ≤ (k : Int) := Int.natCast_nonneg k
        obtain ⟨i0, hi, hz0, hz1, hz2⟩ := info_parts tx_info
        have HI0 := Lib.hid (And.intro hi (And.intro hz0 (And.intro hz1 hz2)))
        clear hrb hs hkN hkn hkN' hi hz0 hz1 hz2 hkzr hx
        by_cases hkz : k < Z.length
        · obtain ⟨ad, rfl, hcells⟩ := HB.out.2.1.2 (by omega)
          have ce := hcells k _ (bvs_get Z k hkz)
          have hsz := szA_in hkz
          obtain ⟨x, hxx⟩ : ∃ x, x = Z[k] := ⟨_, rfl⟩
          rw [← hxx] at ce hsz
          have hcl : (k : Int) < (Z.length : Int) := by omega
          have ce := ((HB.out.2.2.trans HM.out fun b hb c => by have c : b = r := c; have := HX.out; omega).cell (OP.cell_lt ce) (fun c => c)).trans ce
          obtain ⟨X, hX⟩ : ∃ X : Int, X = (x.toNat : Int) % 4 := ⟨_, rfl⟩
          have HSZ := Lib.hid (show (szA Z k : Int) = X by rw [hsz, hX]; omega)
          clear hcells hsz hxx hkz
          have hc := rraw_any X HRR.out (by have := HX.out; omega)
          obtain ⟨t, ht⟩ : ∃ t, t = (rawA l (.live q) X).2 := ⟨_, rfl⟩
          obtain ⟨s1, hs1⟩ : ∃ s1, s1 = (rawA l (.live q) X).1 := ⟨_, rfl⟩
          rw [← ht, ← hs1] at hc
          have HC := Lib.hid hc
          have HT := Lib.hid (And.intro ht hs1)
          clear hc ht hs1 hbd
          subst hX
          obtain ⟨e1, hw64, e2, e3, e4⟩ := HWW.out
          go_wp2_with (first
            | (go_at_call 21
               refine HC.out.mono ?_
               rintro e w2 ⟨A3, c3, rfl, hown3, R2, M2⟩
               have hcv := conv_string (RdT.of_own hown3) _ c3 rfl
               have HR2 := Lib.hid R2
               have HM2 := Lib.hid M2
               clear hown3 R2 M2)
            | (at_builtin
               refine wpList_put1 rfl (.tmp 62) (.tmp 67) 38 rfl w0.heap.size 9 i0 (.string ⟨#[]⟩) 16 Try.underlying38 HI0.out.1 HI0.out.2.1 HI0.out.2.2.1 HI0.out.2.2.2 rfl w2 A2 c2 k _ (.string ⟨t.toArray⟩) rfl rfl (tx_far HO2.out HRB.out HM2.out) rfl HP1.out.1 HP1.out.2 (Nat.le_trans HM.out.size HM2.out.size) ?_
               intro A4 c4 w3 hown4 hM4
               have HO4 := Lib.hid hown4
               have HM4 := Lib.hid hM4
               have z3 := HZZ.out _ _ HM2.out hM4
               clear hown4 hM4))
          go_roundw
          case rel =>
            have eg : ∀ j : Nat, Value.int IntKind.u64 ((j : Int) + 1) = .int .u64 ((j + 1 : Nat) : Int) := fun _ => rfl
            clear e2 e3 e4
            obtain ⟨ht, hs1⟩ := HT.out
            rw [← HSZ.out] at ht hs1
            have eS : (eachE l Z s0 (k + 1)).1 = s1 := by show (rawA l (eachE l Z s0 k).1 (szA Z k : Int)).1 = s1; rw [HS.out, hs1]
            have eR : (eachE l Z s0 (k + 1)).2.map tx = (eachE l Z s0 k).2.map tx ++ [.string ⟨t.toArray⟩] := by
              show ((eachE l Z s0 k).2 ++ [(rawA l (eachE l Z s0 k).1 (szA Z k : Int)).2]).map tx = _
              rw [txs_snoc, HS.out, ← ht]
              rfl
            refine ⟨k + 1, HBD.out.2, by go_num, by go_num, ?_, ?_, ?_, ?_⟩
            all_goals clear e1 hw64
            · rw [eR]; exact HO4.out
            · rw [eS]
              refine HR2.out.mod HM4.out (fun c => by have := c.1; have := HX.out; omega) (fun hne c => by have := c.1; have := HR0.out.2.2.1 hne; omega)
            · exact (HM.out.and_then HM2.out).trans HM4.out fun b hb c => by have := c.1; omega
            · intro j hj
              rcases Nat.lt_or_ge j k with c | c
              · exact HLV.out j c
              · obtain rfl : j = k := by omega
                exact ⟨q, HS.out⟩
          case measure =>
            have := HBD.out
            try rw [e1]
            clear e1 hw64 e2 e3 e4
            show N - ((k : Int) + 1).toNat < N - ((k : Int)).toNat
            omega

        · have hsz := szA_out hkz
          have hcl : ¬ (k : Int) < (Z.length : Int) := by omega
          obtain ⟨X, hX⟩ : ∃ X : Int, X = 1 := ⟨_, rfl⟩
          have HSZ := Lib.hid (show (szA Z k : Int) = X by rw [hsz, hX]; rfl)
          clear hsz hkz
          have hc := rraw_any X HRR.out (by have := HX.out; omega)
          obtain ⟨t, ht⟩ : ∃ t, t = (rawA l (.live q) X).2 := ⟨_, rfl⟩
          obtain ⟨s1, hs1⟩ : ∃ s1, s1 = (rawA l (.live q) X).1 := ⟨_, rfl⟩
          rw [← ht, ← hs1] at hc
          have HC := Lib.hid hc
          have HT := Lib.hid (And.intro ht hs1)
          clear hc ht hs1 hbd
          subst hX
          obtain ⟨e1, hw64, e2, e3, e4⟩ := HWW.out
          go_wp2_with (first
            | (go_at_call 21
               refine HC.out.mono ?_
               rintro e w2 ⟨A3, c3, rfl, hown3, R2, M2⟩
               have hcv := conv_string (RdT.of_own hown3) _ c3 rfl
               have HR2 := Lib.hid R2
               have HM2 := Lib.hid M2
               clear hown3 R2 M2)
            | (at_builtin
               refine wpList_put1 rfl (.tmp 62) (.tmp 67) 38 rfl w0.heap.size 9 i0 (.string ⟨#[]⟩) 16 Try.underlying38 HI0.out.1 HI0.out.2.1 HI0.out.2.2.1 HI0.out.2.2.2 rfl w2 A2 c2 k _ (.string ⟨t.toArray⟩) rfl rfl (tx_far HO2.out HRB.out HM2.out) rfl HP1.out.1 HP1.out.2 (Nat.le_trans HM.out.size HM2.out.size) ?_
               intro A4 c4 w3 hown4 hM4
               have HO4 := Lib.hid hown4
               have HM4 := Lib.hid hM4
               have z3 := HZZ.out _ _ HM2.out hM4
               clear hown4 hM4))
          go_roundw
          case rel =>
            have eg : ∀ j : Nat, Value.int IntKind.u64 ((j : Int) + 1) = .int .u64 ((j + 1 : Nat) : Int) := fun _ => rfl
            clear e2 e3 e4
            obtain ⟨ht, hs1⟩ := HT.out
            rw [← HSZ.out] at ht hs1
            have eS : (eachE l Z s0 (k + 1)).1 = s1 := by show (rawA l (eachE l Z s0 k).1 (szA Z k : Int)).1 = s1; rw [HS.out, hs1]
            have eR : (eachE l Z s0 (k + 1)).2.map tx = (eachE l Z s0 k).2.map tx ++ [.string ⟨t.toArray⟩] := by
              show ((eachE l Z s0 k).2 ++ [(rawA l (eachE l Z s0 k).1 (szA Z k : Int)).2]).map tx = _
              rw [txs_snoc, HS.out, ← ht]
              rfl
            refine ⟨k + 1, HBD.out.2, by go_num, by go_num, ?_, ?_, ?_, ?_⟩
            all_goals clear e1 hw64
            · rw [eR]; exact HO4.out
            · rw [eS]
              refine HR2.out.mod HM4.out (fun c => by have := c.1; have := HX.out; omega) (fun hne c => by have := c.1; have := HR0.out.2.2.1 hne; omega)
            · exact (HM.out.and_then HM2.out).trans HM4.out fun b hb c => by have := c.1; omega
            · intro j hj
              rcases Nat.lt_or_ge j k with c | c
              · exact HLV.out j c
              · obtain rfl : j = k := by omega
                exact ⟨q, HS.out⟩
          case measure =>
            have := HBD.out
            try rw [e1]
            clear e1 hw64 e2 e3 e4
            show N - ((k : Int) + 1).toNat < N - ((k : Int)).toNat
            omega


set_option maxRecDepth 100000 in
set_option maxHeartbeats 4000000 in
theorem each_law {W : World} {Ab Az : Option Addr} {cb cz : Nat} {l Z : List UInt8} {n : Int} (hb : Rds W 1 Ab l.length (bvs l)) (hl : l.length ≤ 1048576) (hz : Rds W 1 Az Z.length (bvs Z)) (hZ : Z.length ≤ 1048576) (hn1 : -9223372036854775808 ≤ n) (hn2 : n ≤ 9223372036854775807) :
    Calls Try.prog 5 #[.slice Ab l.length cb, .int .i64 n, .slice Az Z.length cz] W fun e w' => e = .returned (.bool true) ∧ Mod no W w' := by
  have HB := Lib.hid (And.intro hb (And.intro hl trivial))
  have HZ := Lib.hid (And.intro hz hZ)
  have HN := Lib.hid (And.intro hn1 hn2)
  clear hb hl hz hZ hn1 hn2
  go_enter Try.func5, Try.ntmps5
  go_wp2_with fail
  have m0 : Mod no W (W.alloc (.cells #[.slice Az Z.length cz] 23)) := (Mod.refl no W).alloc _
  have b0 : Blk (W.alloc (.cells #[.slice Az Z.length cz] 23)) W.heap.size 23 #[.slice Az Z.length cz] := Blk.new W _ _
  generalize W.alloc (.cells #[.slice Az Z.length cz] 23) = wa at *
  have H0 := Lib.hid (And.intro m0 b0)
  clear m0 b0
  refine (open_r (rds_mod HB.out.1 H0.out.1) (by have := HB.out.2.1; omega)).mono ?_
  rintro e w1 ⟨g, gb, rfl, hg, hgb, hL, M1⟩
  have HL := Lib.hid (And.intro hL (And.intro hg (And.intro hgb M1)))
  clear hL hg hgb M1
  go_wp2_with fail
  refine (ropen_r (rds_mod HB.out.1 (H0.out.1.and_then HL.out.2.2.2)) (by have := HB.out.2.1; omega)).mono ?_
  rintro e w2 ⟨r, rb, rfl, hr, hrb, hRL, M2⟩
  have HRL := Lib.hid (And.intro hRL (And.intro hr (And.intro hrb M2)))
  clear hRL hr hrb M2
  go_wp2_with fail
  have m3 : Mod no w2 (w2.alloc (.cells #[.int .i64 0] 3)) := (Mod.refl no w2).alloc _
  have b3 : Blk (w2.alloc (.cells #[.int .i64 0] 3)) w2.heap.size 3 #[.int .i64 0] := Blk.new w2 _ _
  have hsz : (w2.alloc (.cells #[.int .i64 0] 3)).heap.size = w2.heap.size + 1 := by simp
  generalize w2.alloc (.cells #[.int .i64 0] 3) = w3 at *
  have HA := Lib.hid (show Mod no W w3 ∧ LiveAt w3 g gb l 0 ∧ RLive w3 r rb l 0 ∧ Blk w3 w2.heap.size 3 #[.int .i64 0] ∧ Blk w3 W.heap.size 23 #[.slice Az Z.length cz] ∧ W.heap.size ≤ g ∧ W.heap.size ≤ r ∧ W.heap.size ≤ w2.heap.size ∧ (l ≠ [] → gb < w3.heap.size) ∧ (l ≠ [] → rb < w3.heap.size) ∧ r ≠ g from by
    obtain ⟨hL, hg, hgb, M1⟩ := HL.out
    obtain ⟨hRL, hr, hrb, M2⟩ := HRL.out
    have M23 := M2.and_then m3
    have L3 : LiveAt w3 g gb l 0 := hL.mod M23 (fun c => c) (fun _ c => c)
    have R3 : RLive w3 r rb l 0 := hRL.mod m3 (fun c => c) (fun _ c => c)
    have s0 := H0.out.1.size
    have s1 := M1.size
    have s2 := M2.size
    refine ⟨(H0.out.1.and_then M1).and_then M23, L3, R3, b3, H0.out.2.mod (M1.and_then M23) (fun c => c), by omega, by omega, by omega, ?_, ?_, ?_⟩
    · intro hne; obtain ⟨_, _, _, _, _, h9, _⟩ := L3; obtain ⟨o9, cs9, _, h8, _⟩ := h9 hne; exact h8.lt
    · intro hne; obtain ⟨_, _, _, _, _, h9, _⟩ := R3; obtain ⟨o9, cs9, _, h8, _⟩ := h9 hne; exact h8.lt
    · obtain ⟨_, _, hb9, _⟩ := L3
      obtain ⟨_, _, hb8, _⟩ := R3
      intro e; subst e
      exact absurd (hb9.same hb8).1 (by decide))
  have HS3 := Lib.hid (And.intro m3 hsz)
  clear m3 b3 hsz
  refine (each_tx (W := W) n HA.out.2.1 HA.out.2.2.2.1 HA.out.2.2.2.2.1 HZ.out.1 HA.out.1 HA.out.2.2.2.2.2.1 HA.out.2.2.2.2.2.2.2.1 HA.out.2.2.2.2.2.2.2.2.1 HB.out.2.1 HZ.out.2 HN.out.1 HN.out.2).mono ?_
  rintro e w5 ⟨s0, N, K, A', c', hV, hE, rfl, own5, D5, k5, M5⟩
  have hrt : ∃ cs, Blk w3 r 52 cs := by obtain ⟨_, _, hb9, _⟩ := HA.out.2.2.1; exact ⟨_, hb9⟩
  obtain ⟨cr3, hcr3⟩ := hrt
  have hrk : r ≠ w2.heap.size := fun e => by subst e; exact absurd (hcr3.same HA.out.2.2.2.1).1 (by decide)
  have hrz : r ≠ W.heap.size := fun e => by rw [e] at hcr3; exact absurd (hcr3.same HA.out.2.2.2.2.1).1 (by decide)
  have nr : ¬ two g w2.heap.size r := fun c => by
    rcases c with c | c
    · exact HA.out.2.2.2.2.2.2.2.2.2.2 c
    · exact hrk c
  have HV := Lib.hid hV
  have HEN := Lib.hid hE
  have HW5 := Lib.hid (HA.out.1.trans M5 fun b hb c => by
    obtain ⟨_, _, _, _, _, x1, _, x2, _⟩ := HA.out
    rcases c with c | c <;> omega)
  have R5 : RAt w5 r rb l (.live 0) := by
    obtain ⟨A9, c9, hb9, h1, h2, h3, h4⟩ := HA.out.2.2.1
    refine RLive.mod ⟨A9, c9, hb9, h1, h2, h3, h4⟩ M5 nr fun hne c => ?_
    obtain ⟨o9, cs9, _, h8, _⟩ := h3 hne
    rcases c with c | c
    · obtain ⟨_, _, hb7, _⟩ := HA.out.2.1
      rw [c] at h8
      exact absurd (h8.same hb7).1 (by decide)
    · rw [c] at h8
      exact absurd (h8.same HA.out.2.2.2.1).1 (by decide)
  have HR := Lib.hid (show RAt w5 r rb l (.live 0) ∧ W.heap.size ≤ r ∧ r < w5.heap.size ∧ (l ≠ [] → rb < w5.heap.size) from ⟨R5, HA.out.2.2.2.2.2.2.1, Nat.lt_of_lt_of_le hcr3.lt M5.size, fun hne => Nat.lt_of_lt_of_le (HA.out.2.2.2.2.2.2.2.2.2.1 hne) M5.size⟩)
  have HD5 := Lib.hid (And.intro D5 (And.intro k5 (And.intro (HA.out.2.2.2.2.1.mod M5 fun c => by
    rcases c with c | c
    · obtain ⟨_, _, hb7, _⟩ := HA.out.2.1
      rw [← c] at hb7
      exact absurd (hb7.same HA.out.2.2.2.2.1).1 (by decide)
    · have h9 := HA.out.2.2.2.1
      rw [← c] at h9
      exact absurd (h9.same HA.out.2.2.2.2.1).1 (by decide)) own5)))
  have HRN := Lib.hid (And.intro hrk hrz)
  have HGS := Lib.hid (show RD.Good s0 from by have h := RD.varA_good l (.live 0) n.toNat trivial; rw [hV] at h; exact h)
  have HNN := Lib.hid (show N < 18446744073709551616 from by
    cases s0 with
    | dead a c => rw [WD.varGo_dead l 0 _ _ _ _ _ _ _ hV]; decide
    | live q => exact (varGo_10 l 0 n.toNat q N (Nat.zero_le _) hV).2.2.2)
  clear hV hE own5 D5 k5 M5 R5 nr hrk hrz hcr3
  by_cases hpos : 0 < n
  · have hu : IntKind.u64.wrap n = n := IntWalk.u64_in _ (by have := HN.out; omega)
    have HNV := Lib.hid (show n = (n.toNat : Int) by omega)
    go_wp2_with fail
    refine (rvar_n (s := .live 0) n.toNat HNV.out HR.out.1 (by have := HN.out; omega)).mono ?_
    rintro e w6 ⟨rfl, R6, M6⟩
    rw [HV.out] at R6
    rw [HV.out]
    have HR6 := Lib.hid R6
    have HM6 := Lib.hid M6
    clear R6 M6
    rename (∀ (a : Act) (w : World), Code.wp _ (Code.seq (Code.region 9 _ _) _) _ a w → _) => hK9
    have HK9 := Lib.hid hK9
    clear hK9
    go_wp2_with fail
    refine HK9.out _ _ ?_
    clear HK9
    refine wp_seq_k fun K1 hK1 => ?_
    have HK1 := Lib.hid hK1
    clear hK1
    go_wp2_with fail
    refine HK1.out _ _ ?_
    clear HK1 K1
    refine wp_seq_k fun K2 hK2 => ?_
    have HK2 := Lib.hid hK2
    clear hK2
    go_wp2_with fail
    refine HK2.out _ _ ?_
    clear HK2 K2
    obtain ⟨hr1, hr2, hr3, hr4⟩ := HR.out
    obtain ⟨cr, hcr⟩ := RAt.typ hr1
    refine e1_any HB.out.1 HB.out.2.1 HZ.out.1 HZ.out.2 (HW5.out.trans HM6.out fun b hb c => by have c : b = r := c; omega) (dec_far HD5.out.1 hcr HM6.out) HR6.out HGS.out hr2 (Nat.le_refl _) (fun hne => Nat.lt_of_lt_of_le (hr4 hne) HM6.out.size) HEN.out HNN.out (HD5.out.2.1.mod HM6.out (fun c => HRN.out.1 c.symm)) (HD5.out.2.2.1.mod HM6.out (fun c => HRN.out.2 c.symm)) (tx_far HD5.out.2.2.2 hcr HM6.out) _ _ _ _ _ _ _ _ _ _ _ _ _ _ _ _ _ _ _ _ _ _ _ _ _ _ _ _ _ _ _ _ _ _ _ _ _ _ _ _ _ _ _ _ _ _ _ _ _ _ _ _ _ _ _ _ _ _ _ _ _ _ _ _ _ _ _ _ _ _ _ _ _ _ _ _ _ _ _ _ _ _ _ _ _ _ _ _ _ _ _ _ _ _ _ _ _ _ _ _ _ _ _ _ _ _ _ _ _ _ _ _ _ _ _ _ _ _ _ _ _ _ _ _ _ _ _ _ _ _ _ ?_
    intro u6 u13 u14 u15 u16 u17 u18 u19 u20 u21 u22 u38 u39 u40 u41 u42 u43 u44 u45 u46 u47 u48 u49 u50 u51 u52 u53 u54 u55 u56 u57 u58 u59 u60 u61 u62 u63 u64 u65 u66 u67 u68 u69 u70 u71 u72 u73 u74 u75 u76 u77 u78 u79 u80 u81 u82 u83 u84 u85 u86 u87 u88 u89 u90 u91 u92 u93 u94 u95 u96 u97 u98 u99 u100 u101 u102 u103 u104 u105 u106 u107 u108 u109 u110 u111 u112 u113 u114 u115 u116 u117 u118 u119 u120 u121 u122 u123 u124 u125 u126 u127 u128 u129 u130 u131 u132 u133 u134 u135 u136 u137 u138 u139 w9 h6 M9
    subst h6
    go_ret
    exact ⟨rfl, M9⟩
  · have hpos2 : ¬ (0 : Int) < n := hpos
    have HNV := Lib.hid (show (0 : Int) = (n.toNat : Int) by omega)
    go_wp2_with fail
    refine (rvar_n (s := .live 0) n.toNat HNV.out HR.out.1 (by have := HN.out; omega)).mono ?_
    rintro e w6 ⟨rfl, R6, M6⟩
    rw [HV.out] at R6
    rw [HV.out]
    have HR6 := Lib.hid R6
    have HM6 := Lib.hid M6
    clear R6 M6
    rename (∀ (a : Act) (w : World), Code.wp _ (Code.seq (Code.region 9 _ _) _) _ a w → _) => hK9
    have HK9 := Lib.hid hK9
    clear hK9
    go_wp2_with fail
    refine HK9.out _ _ ?_
    clear HK9
    refine wp_seq_k fun K1 hK1 => ?_
    have HK1 := Lib.hid hK1
    clear hK1
    go_wp2_with fail
    refine HK1.out _ _ ?_
    clear HK1 K1
    refine wp_seq_k fun K2 hK2 => ?_
    have HK2 := Lib.hid hK2
    clear hK2
    go_wp2_with fail
    refine HK2.out _ _ ?_
    clear HK2 K2
    obtain ⟨hr1, hr2, hr3, hr4⟩ := HR.out
    obtain ⟨cr, hcr⟩ := RAt.typ hr1
    refine e1_any HB.out.1 HB.out.2.1 HZ.out.1 HZ.out.2 (HW5.out.trans HM6.out fun b hb c => by have c : b = r := c; omega) (dec_far HD5.out.1 hcr HM6.out) HR6.out HGS.out hr2 (Nat.le_refl _) (fun hne => Nat.lt_of_lt_of_le (hr4 hne) HM6.out.size) HEN.out HNN.out (HD5.out.2.1.mod HM6.out (fun c => HRN.out.1 c.symm)) (HD5.out.2.2.1.mod HM6.out (fun c => HRN.out.2 c.symm)) (tx_far HD5.out.2.2.2 hcr HM6.out) _ _ _ _ _ _ _ _ _ _ _ _ _ _ _ _ _ _ _ _ _ _ _ _ _ _ _ _ _ _ _ _ _ _ _ _ _ _ _ _ _ _ _ _ _ _ _ _ _ _ _ _ _ _ _ _ _ _ _ _ _ _ _ _ _ _ _ _ _ _ _ _ _ _ _ _ _ _ _ _ _ _ _ _ _ _ _ _ _ _ _ _ _ _ _ _ _ _ _ _ _ _ _ _ _ _ _ _ _ _ _ _ _ _ _ _ _ _ _ _ _ _ _ _ _ _ _ _ _ _ _ ?_
    intro u6 u13 u14 u15 u16 u17 u18 u19 u20 u21 u22 u38 u39 u40 u41 u42 u43 u44 u45 u46 u47 u48 u49 u50 u51 u52 u53 u54 u55 u56 u57 u58 u59 u60 u61 u62 u63 u64 u65 u66 u67 u68 u69 u70 u71 u72 u73 u74 u75 u76 u77 u78 u79 u80 u81 u82 u83 u84 u85 u86 u87 u88 u89 u90 u91 u92 u93 u94 u95 u96 u97 u98 u99 u100 u101 u102 u103 u104 u105 u106 u107 u108 u109 u110 u111 u112 u113 u114 u115 u116 u117 u118 u119 u120 u121 u122 u123 u124 u125 u126 u127 u128 u129 u130 u131 u132 u133 u134 u135 u136 u137 u138 u139 w9 h6 M9
    subst h6
    go_ret
    exact ⟨rfl, M9⟩

end Go.Proofs.Ytpfkcejndjnbhaa.EC
