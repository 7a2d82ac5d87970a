/- The law WireApart: the second loop with what stands behind it, and the law (printed by wireapartl.py). -/
import Derived.Test.YtpfkcejndjnbhaaApartT
import Derived.StillTailTactics
namespace Go.Proofs.Ytpfkcejndjnbhaa.AP
open Go.RowKit Mem WM
open Go.Proofs.Ytpfkcejndjnbhaa.WD (RdT RdB u8_info own_mod key_size rowS conv_string)
open Go.Proofs.Ytpfkcejndjnbhaa.OP (AddI AddAt allB allB_0 allB_succ Elems cell_lt atA copied_r)
open Go.Proofs.Ytpfkcejndjnbhaa.EN
open Go.Proofs.Ytpfkcejndjnbhaa.EK (RdT.pre Safe nextK)
open Go.Proofs.Ytpfkcejndjnbhaa.AD (Enc0)
open Go.Proofs.Ytpfkcejndjnbhaa.BK (conv_rds add_range range_mod add_info allB_le)
open Go.Proofs.Ytpfkcejndjnbhaa.ON (addL_len)
set_option linter.unusedVariables false
set_option linter.unusedSimpArgs false

def ApInv (W : World) (q r : Nat) (P : List UInt8) (F Fb : Nat → AddI) (m mb : Nat) (va vo vt i : Value) (wr : World) : Prop :=
  ∃ k : Nat, k ≤ 1048576 ∧ i = .int .i64 (k : Int) ∧ ApS W q r P (allB F (min k m)) (allB Fb (min k mb)) va vo vt wr
def AllInv (W : World) (F : Nat → AddI) (q n : Nat) (va i : Value) (wr : World) : Prop :=
  ∃ (k : Nat) (A1 Aa : Option Addr) (ca : Nat), k ≤ n ∧ i = .int .i64 (k : Int) ∧ AD.AddsH W F q k va (.slice none 0 0) (.slice none 0 0) wr A1 Aa ca []

set_option maxRecDepth 100000 in
set_option maxHeartbeats 4000000 in
theorem loop2_any {W : World} {A : Option Addr} {m c : Nat} {E : Nat → List Value} {F : Nat → AddI} (hE : Elems W A m 36 E) (hm : m ≤ 1048576)
    (hF : ∀ i, i < m → AddAt W (E i) (F i) ∧ (F i).ok ∧ (F i).S.length + (F i).B.length ≤ 1048576) (hallF : (allB F m).length ≤ 60000000)
    {B : Option Addr} {mb cb : Nat} {Eb : Nat → List Value} {Fb : Nat → AddI} (hEb : Elems W B mb 36 Eb) (hmb : mb ≤ 1048576)
    (hFb : ∀ i, i < mb → AddAt W (Eb i) (Fb i) ∧ (Fb i).ok ∧ (Fb i).S.length + (Fb i).B.length ≤ 1048576) (hallFb : (allB Fb mb).length ≤ 60000000)
    {q r : Nat} {P : List UInt8} (hP : P.length ≤ 60000000) {va vo vt : Value} {w0 : World} (H : ApS W q r P [] [] va vo vt w0)
    (d0 d3 d4 d5 d6 d11 d13 d14 d15 d16 d17 d18 d19 d20 d21 d22 d23 d24 d25 d26 d27 d28 d29 d30 d31 d32 d33 d34 d35 d36 d37 d38 d39 d40 d41 d42 d43 d44 d45 d46 d47 d48 d49 d50 d51 d52 d53 d54 d55 d56 d57 d58 d59 d60 d61 d62 d63 d64 d65 d66 d67 d68 d69 d70 d71 d72 d73 d74 d75 d76 d77 d78 d79 d80 d81 d82 d83 d84 d85 d86 d87 d88 d89 d90 d91 d92 d93 d94 d95 d96 d97 d98 d99 d100 d101 d102 d103 d104 d105 d106 d107 d108 d109 d110 d111 d112 d113 d114 d115 d116 d117 d118 d119 d120 d121 d122 d123 d124 d125 d126 d127 d128 d129 d130 d131 d132 d133 d134 d135 d136 d137 d138 d139 d140 d141 d142 d143 d144 d145 d146 d147 d148 d149 : Value) (Q : Exit → Act → World → Prop)
    (hexit : ∀ (u6 u9 u10 u13 u14 u15 u16 u17 u37 u38 u39 u40 u41 u42 u43 u44 u45 u46 u47 u48 u49 u50 u51 u52 u53 u54 u55 u56 u57 u58 u59 u60 u61 u62 u63 u64 u65 u66 u67 u68 u69 u70 u71 u72 u73 u74 u75 u76 u77 u78 u79 u80 u81 u82 u83 u84 u85 u86 u87 u88 u89 u90 u91 u92 u93 u94 u95 u96 u97 u98 u99 u100 u101 u102 u103 u104 u105 u106 u107 u108 u109 u110 u111 u112 u113 u114 u115 u116 u117 u118 u119 u120 u121 u122 u123 u124 u125 u126 u127 u128 u129 u130 u131 u132 u133 u134 u135 u136 u137 u138 u139 u140 u141 u142 u143 u144 u145 u146 u147 u148 u149 : Value) (w' : World), u6 = .bool true → Mod no W w' → Q .ret ⟨List.toArray (d0 :: (.slice A m c) :: (.slice B mb cb) :: d3 :: d4 :: d5 :: u6 :: (.pointer (some ⟨q, 0, none⟩)) :: (va) :: u9 :: u10 :: d11 :: (.pointer (some ⟨r, 0, none⟩)) :: u13 :: u14 :: u15 :: u16 :: u17 :: d18 :: d19 :: d20 :: d21 :: d22 :: d23 :: d24 :: d25 :: d26 :: d27 :: d28 :: d29 :: d30 :: d31 :: d32 :: d33 :: d34 :: d35 :: d36 :: u37 :: u38 :: u39 :: u40 :: u41 :: u42 :: u43 :: u44 :: u45 :: u46 :: u47 :: u48 :: u49 :: u50 :: u51 :: u52 :: u53 :: u54 :: u55 :: u56 :: u57 :: u58 :: u59 :: u60 :: u61 :: u62 :: u63 :: u64 :: u65 :: u66 :: u67 :: u68 :: u69 :: u70 :: u71 :: u72 :: u73 :: u74 :: u75 :: u76 :: u77 :: u78 :: u79 :: u80 :: u81 :: u82 :: u83 :: u84 :: u85 :: u86 :: u87 :: u88 :: u89 :: u90 :: u91 :: u92 :: u93 :: u94 :: u95 :: u96 :: u97 :: u98 :: u99 :: u100 :: u101 :: u102 :: u103 :: u104 :: u105 :: u106 :: u107 :: u108 :: u109 :: u110 :: u111 :: u112 :: u113 :: u114 :: u115 :: u116 :: u117 :: u118 :: u119 :: u120 :: u121 :: u122 :: u123 :: u124 :: u125 :: u126 :: u127 :: u128 :: u129 :: u130 :: u131 :: u132 :: u133 :: u134 :: u135 :: u136 :: u137 :: u138 :: u139 :: u140 :: u141 :: u142 :: u143 :: u144 :: u145 :: u146 :: u147 :: u148 :: u149 :: []), []⟩ w') :
    Code.wp Try.prog loop2C Q ⟨List.toArray (d0 :: (.slice A m c) :: (.slice B mb cb) :: d3 :: d4 :: d5 :: d6 :: (.pointer (some ⟨q, 0, none⟩)) :: (va) :: (vo) :: (vt) :: d11 :: (.pointer (some ⟨r, 0, none⟩)) :: d13 :: d14 :: d15 :: d16 :: d17 :: d18 :: d19 :: d20 :: d21 :: d22 :: d23 :: d24 :: d25 :: d26 :: d27 :: d28 :: d29 :: d30 :: d31 :: d32 :: d33 :: d34 :: d35 :: d36 :: d37 :: d38 :: d39 :: d40 :: d41 :: d42 :: d43 :: d44 :: d45 :: d46 :: d47 :: d48 :: d49 :: d50 :: d51 :: d52 :: d53 :: d54 :: d55 :: d56 :: d57 :: d58 :: d59 :: d60 :: d61 :: d62 :: d63 :: d64 :: d65 :: d66 :: d67 :: d68 :: d69 :: d70 :: d71 :: d72 :: d73 :: d74 :: d75 :: d76 :: d77 :: d78 :: d79 :: d80 :: d81 :: d82 :: d83 :: d84 :: d85 :: d86 :: d87 :: d88 :: d89 :: d90 :: d91 :: d92 :: d93 :: d94 :: d95 :: d96 :: d97 :: d98 :: d99 :: d100 :: d101 :: d102 :: d103 :: d104 :: d105 :: d106 :: d107 :: d108 :: d109 :: d110 :: d111 :: d112 :: d113 :: d114 :: d115 :: d116 :: d117 :: d118 :: d119 :: d120 :: d121 :: d122 :: d123 :: d124 :: d125 :: d126 :: d127 :: d128 :: d129 :: d130 :: d131 :: d132 :: d133 :: d134 :: d135 :: d136 :: d137 :: d138 :: d139 :: d140 :: d141 :: d142 :: d143 :: d144 :: d145 :: d146 :: d147 :: d148 :: d149 :: []), []⟩ w0 := by
  have HLE := Lib.hid hexit
  have HL := Lib.hid hP
  have HS := Lib.hid H
  clear hexit hP H
  show Code.wp Try.prog (Code.seq (sL loop2C) t0C) Q _ _
  refine wp_seq_k fun K1 hK1 => ?_
  have HK1 := Lib.hid hK1
  clear hK1
  conv => arg 2; whnf
  go_wp2_with fail
  go_loopw [9, 10, 13] (ApInv W q r P F Fb m mb va) (fun _ _ i _ => max m mb - (intOf i).toNat)
  case atStart => exact ⟨0, by omega, rfl, by rw [Nat.zero_min, Nat.zero_min]; exact HS.out⟩
  case round =>
    clear HS
    obtain ⟨k, hk, rfl, H⟩ := hrel
    have HS := Lib.hid H
    clear H
    refine wp_seq_k fun K2 hK2 => ?_
    have HK2 := Lib.hid hK2
    clear hK2
    by_cases h1 : k < m
    · have hkm : (k : Int) < (m : Int) := by omega
      have hw64 : wrap64 ((k : Int) + 1) = (k : Int) + 1 := IntWalk.wrap64_in _ (by omega)
      have HKM := Lib.hid (show k < max m mb ∧ max m mb ≤ 1048576 by omega)
      clear h1 hk
      go_wp2_with fail
      refine HK2.out _ _ ?_
      clear HK2 K2
      refine wp_seq_k fun K3 hK3 => ?_
      have HK3 := Lib.hid hK3
      clear hK3
      refine wp_block ?_
      refine wp_seq ?_
      refine half_a hE hm hF hallF (by have := HKM.out; omega) HL.out HS.out _ _ _ _ _ _ _ _ _ _ _ _ _ _ _ _ _ _ _ _ _ _ _ _ _ _ _ _ _ _ _ _ _ _ _ _ _ _ _ _ _ _ _ _ _ _ _ _ _ _ _ _ _ _ _ _ _ _ _ _ _ _ _ _ _ _ _ _ _ _ _ _ _ _ _ _ _ _ _ _ _ _ _ _ _ _ _ _ _ _ _ _ _ _ _ _ _ _ _ _ _ _ _ _ _ _ _ _ _ _ _ _ _ _ _ _ _ _ _ _ _ _ _ _ _ _ _ _ _ _ _ _ _ _ _ _ _ _ _ _ _ _ _ _ _ ?_
      intro u9 u49 u50 u51 u52 u53 u54 u55 u56 u57 u58 u59 u60 u61 u62 u63 u64 w' h'
      refine half_b hEb hmb hFb hallFb (by have := HKM.out; omega) HL.out h' _ _ _ _ _ _ _ _ _ _ _ _ _ _ _ _ _ _ _ _ _ _ _ _ _ _ _ _ _ _ _ _ _ _ _ _ _ _ _ _ _ _ _ _ _ _ _ _ _ _ _ _ _ _ _ _ _ _ _ _ _ _ _ _ _ _ _ _ _ _ _ _ _ _ _ _ _ _ _ _ _ _ _ _ _ _ _ _ _ _ _ _ _ _ _ _ _ _ _ _ _ _ _ _ _ _ _ _ _ _ _ _ _ _ _ _ _ _ _ _ _ _ _ _ _ _ _ _ _ _ _ _ _ _ _ _ _ _ _ _ _ _ _ _ _ ?_
      intro u10 u65 u66 u67 u68 u69 u70 u71 u72 u73 u74 u75 u76 u77 u78 u79 u80 w'' h'' 
      have H'' := Lib.hid h''
      have HK4 := HK3.out
      clear h' h''
      refine HK4 _ _ ?_
      clear HK4 HK3 K3
      go_wp2_with fail
      go_roundw
      case rel => exact ⟨k + 1, by have := HKM.out; omega, by go_num, H''.out⟩
      case measure =>
        have := HKM.out
        try rw [hw64]
        show max m mb - ((k : Int) + 1).toNat < max m mb - ((k : Int)).toNat
        omega

    · by_cases h2 : k < mb
      · have hkm : ¬ (k : Int) < (m : Int) := by omega
        have hkb : (k : Int) < (mb : Int) := by omega
        have hw64 : wrap64 ((k : Int) + 1) = (k : Int) + 1 := IntWalk.wrap64_in _ (by omega)
        have HKM := Lib.hid (show k < max m mb ∧ max m mb ≤ 1048576 by omega)
        clear h1 h2 hk
        go_wp2_with fail
        refine HK2.out _ _ ?_
        clear HK2 K2
        refine wp_seq_k fun K3 hK3 => ?_
        have HK3 := Lib.hid hK3
        clear hK3
        refine wp_block ?_
        refine wp_seq ?_
        refine half_a hE hm hF hallF (by have := HKM.out; omega) HL.out HS.out _ _ _ _ _ _ _ _ _ _ _ _ _ _ _ _ _ _ _ _ _ _ _ _ _ _ _ _ _ _ _ _ _ _ _ _ _ _ _ _ _ _ _ _ _ _ _ _ _ _ _ _ _ _ _ _ _ _ _ _ _ _ _ _ _ _ _ _ _ _ _ _ _ _ _ _ _ _ _ _ _ _ _ _ _ _ _ _ _ _ _ _ _ _ _ _ _ _ _ _ _ _ _ _ _ _ _ _ _ _ _ _ _ _ _ _ _ _ _ _ _ _ _ _ _ _ _ _ _ _ _ _ _ _ _ _ _ _ _ _ _ _ _ _ _ ?_
        intro u9 u49 u50 u51 u52 u53 u54 u55 u56 u57 u58 u59 u60 u61 u62 u63 u64 w' h'
        refine half_b hEb hmb hFb hallFb (by have := HKM.out; omega) HL.out h' _ _ _ _ _ _ _ _ _ _ _ _ _ _ _ _ _ _ _ _ _ _ _ _ _ _ _ _ _ _ _ _ _ _ _ _ _ _ _ _ _ _ _ _ _ _ _ _ _ _ _ _ _ _ _ _ _ _ _ _ _ _ _ _ _ _ _ _ _ _ _ _ _ _ _ _ _ _ _ _ _ _ _ _ _ _ _ _ _ _ _ _ _ _ _ _ _ _ _ _ _ _ _ _ _ _ _ _ _ _ _ _ _ _ _ _ _ _ _ _ _ _ _ _ _ _ _ _ _ _ _ _ _ _ _ _ _ _ _ _ _ _ _ _ _ ?_
        intro u10 u65 u66 u67 u68 u69 u70 u71 u72 u73 u74 u75 u76 u77 u78 u79 u80 w'' h'' 
        have H'' := Lib.hid h''
        have HK4 := HK3.out
        clear h' h''
        refine HK4 _ _ ?_
        clear HK4 HK3 K3
        go_wp2_with fail
        go_roundw
        case rel => exact ⟨k + 1, by have := HKM.out; omega, by go_num, H''.out⟩
        case measure =>
          have := HKM.out
          try rw [hw64]
          show max m mb - ((k : Int) + 1).toNat < max m mb - ((k : Int)).toNat
          omega

      · have hkm : ¬ (k : Int) < (m : Int) := by omega
        have hkb : ¬ (k : Int) < (mb : Int) := by omega
        have hS := HS.out
        rw [Nat.min_eq_right (by omega), Nat.min_eq_right (by omega)] at hS
        have HS2 := Lib.hid hS
        clear h1 h2 hk hS
        go_wp2_with fail
        refine HK1.out _ _ (t0_any HS2.out ⟨HL.out, hallF, hallFb⟩ _ _ _ _ _ _ _ _ _ _ _ _ _ _ _ _ _ _ _ _ _ _ _ _ _ _ _ _ _ _ _ _ _ _ _ _ _ _ _ _ _ _ _ _ _ _ _ _ _ _ _ _ _ _ _ _ _ _ _ _ _ _ _ _ _ _ _ _ _ _ _ _ _ _ _ _ _ _ _ _ _ _ _ _ _ _ _ _ _ _ _ _ _ _ _ _ _ _ _ _ _ _ _ _ _ _ _ _ _ _ _ _ _ _ _ _ _ _ _ _ _ _ _ _ _ _ _ _ _ _ _ _ _ _ _ _ _ _ _ _ _ _ _ _ _ _ ?_)
        intro u6 u14 u15 u16 u17 u81 u82 u83 u84 u85 u86 u87 u88 u89 u90 u91 u92 u93 u94 u95 u96 u97 u98 u99 u100 u101 u102 u103 u104 u105 u106 u107 u108 u109 u110 u111 u112 u113 u114 u115 u116 u117 u118 u119 u120 u121 u122 u123 u124 u125 u126 u127 u128 u129 u130 u131 u132 u133 u134 u135 u136 u137 u138 u139 u140 u141 u142 u143 u144 u145 u146 u147 u148 u149 w' h M
        exact HLE.out _ _ _ _ _ _ _ _ _ _ _ _ _ _ _ _ _ _ _ _ _ _ _ _ _ _ _ _ _ _ _ _ _ _ _ _ _ _ _ _ _ _ _ _ _ _ _ _ _ _ _ _ _ _ _ _ _ _ _ _ _ _ _ _ _ _ _ _ _ _ _ _ _ _ _ _ _ _ _ _ _ _ _ _ _ _ _ _ _ _ _ _ _ _ _ _ _ _ _ _ _ _ _ _ _ _ _ _ _ _ _ _ _ _ _ _ _ _ _ _ _ _ h M

set_option maxRecDepth 100000 in
set_option maxHeartbeats 4000000 in
theorem apart_law {W : World} {A0 : Option Addr} {n c0 : Nat} {E0 : Nat → List Value} {F0 : Nat → AddI} (hE0 : Elems W A0 n 36 E0) (hn : n ≤ 1048576)
    (hF0 : ∀ i, i < n → AddAt W (E0 i) (F0 i) ∧ (F0 i).ok ∧ (F0 i).S.length + (F0 i).B.length ≤ 1048576) (hallF0 : (allB F0 n).length ≤ 60000000)
    {A : Option Addr} {m c : Nat} {E : Nat → List Value} {F : Nat → AddI} (hE : Elems W A m 36 E) (hm : m ≤ 1048576)
    (hF : ∀ i, i < m → AddAt W (E i) (F i) ∧ (F i).ok ∧ (F i).S.length + (F i).B.length ≤ 1048576) (hallF : (allB F m).length ≤ 60000000)
    {B : Option Addr} {mb cb : Nat} {Eb : Nat → List Value} {Fb : Nat → AddI} (hEb : Elems W B mb 36 Eb) (hmb : mb ≤ 1048576)
    (hFb : ∀ i, i < mb → AddAt W (Eb i) (Fb i) ∧ (Fb i).ok ∧ (Fb i).S.length + (Fb i).B.length ≤ 1048576) (hallFb : (allB Fb mb).length ≤ 60000000) :
    Calls Try.prog 3 #[.slice A0 n c0, .slice A m c, .slice B mb cb] W fun e w' => e = .returned (.bool true) ∧ Mod no W w' := by
  have HE0 := Lib.hid (And.intro hE0 (And.intro hn (And.intro hF0 hallF0)))
  have HE := Lib.hid (And.intro hE (And.intro hm (And.intro hF hallF)))
  have HEb := Lib.hid (And.intro hEb (And.intro hmb (And.intro hFb hallFb)))
  have h1 := Lib.hid (show Enc0 (W.alloc (.cells #[.slice none 0 0, .pointer none] 26)) W.heap.size none [] from .inr ⟨rfl, rfl, Blk.new W _ _⟩)
  clear hE0 hn hF0 hallF0 hE hm hF hallF hEb hmb hFb hallFb
  go_enter Try.func3, Try.ntmps3
  go_wp2_with fail
  rename (∀ (a : Act) (w : World), Code.wp _ (Code.seq (Code.region 8 _ _) _) _ a w → _) => hK1
  have HK1 := Lib.hid hK1
  clear hK1
  go_loopw [8, 11] (AllInv W F0 W.heap.size n) (fun _ i _ => n - (intOf i).toNat)
  case atStart =>
    refine ⟨0, none, none, 0, Nat.zero_le _, rfl, ?_⟩
    exact ⟨h1.out, rfl, ⟨rfl, .inl ⟨rfl, rfl⟩⟩, ⟨rfl, .inl ⟨rfl, rfl⟩⟩, ⟨rfl, .inl ⟨rfl, rfl⟩⟩, (fun x hx => by simp at hx), (fun b hb => by cases hb), (fun b hb => by cases hb), (fun b hb => by cases hb), (Mod.refl no W).alloc _⟩
  case round =>
    obtain ⟨k, A1, Aa, ca, hk, rfl, H⟩ := hrel
    obtain rfl := H.all
    have HH := Lib.hid H
    clear H
    by_cases hlt : k < n
    · obtain ⟨hE0, hn, hF0, hallF0⟩ := HE0.out
      obtain ⟨b2, o2, rfl, hcells⟩ := hE0 (by omega)
      have hel := hcells k hlt
      obtain ⟨⟨A3, c3, hEk, hrd⟩, hok, hsz⟩ := hF0 k hlt
      have hrgW := add_range (n := n) hel
      rw [hEk] at hrgW
      have hb2 : b2 < W.heap.size := by
        have := hrgW 0 _ rfl
        exact OP.cell_lt this
      have HRG := Lib.hid (range_mod hrgW HH.out.old (fun c => c))
      have HRW := Lib.hid hrgW
      have HIN := Lib.hid (add_info (addL_len (F0 k).kind (F0 k).N (F0 k).S A3 (F0 k).B.length c3 (F0 k).K hok.2))
      have HRD := Lib.hid hrd
      have HOK := Lib.hid (And.intro hok (And.intro hsz hb2))
      have hle := allB_le F0 (show k + 1 ≤ n by omega)
      have hle0 := allB_le F0 (show k ≤ n by omega)
      have HSZ := Lib.hid (show (allB F0 k).length + (F0 k).S.length + (F0 k).B.length ≤ 140737400000000 by omega)
      have HLN := Lib.hid (show (allB F0 k).length + (addA (F0 k).kind (F0 k).N (F0 k).S (F0 k).B (F0 k).K).length ≤ 140737488000000 by
        rw [allB_succ, List.length_append] at hle
        have : (F0 k).bytes = addA (F0 k).kind (F0 k).N (F0 k).S (F0 k).B (F0 k).K := rfl
        rw [this] at hle
        omega)
      have hkm : (k : Int) < (n : Int) := by omega
      have hk0 : (0 : Int) ≤ (k : Int) := by omega
      have hw64 : wrap64 ((k : Int) + 1) = (k : Int) + 1 := IntWalk.wrap64_in _ (by omega)
      have HLT := Lib.hid hlt
      clear hcells hel hrgW hrd hok hsz hEk hb2 hE0 hF0 hn hallF0 hle hle0 hlt hk
      go_wp2_with (first
        | (refine wpList_load_mid rfl 32 (.tmp 26) rfl b2 (o2 + k * 36) rfl (addL (F0 k).kind (F0 k).N (F0 k).S A3 (F0 k).B.length c3 (F0 k).K) _ HRG.out Try.underlying32 rfl HIN.out ?_)
        | (go_at_call 10
           refine (AD.put_0 (F0 k).kind (F0 k).N (F0 k).S A3 (F0 k).B.length c3 (F0 k).K (F0 k).B HH.out.enc HOK.out.1.1 HOK.out.1.2 rfl HSZ.out (OP.rds_mod HRD.out HH.out.old) ?_).mono ?_
           · intro hp ad e
             subst e
             obtain ⟨ad', e', hc⟩ := HRD.out.2 hp
             injection e' with e'
             subst e'
             have h1 := OP.cell_lt (hc 0 _ (bvs_get _ 0 hp))
             have h2 : (ad.add 0).block = ad.block := by simp [Addr.add]
             rw [h2] at h1
             exact ⟨by omega, fun c => by have := HH.out.high1 _ (show atA _ ad.block from c); omega⟩
           rintro e w6 ⟨rfl, A7, nA, R6, M6⟩
           have H6 := Lib.hid (HH.out.put M6 (Nat.le_refl _) nA (by rw [allB_succ]; exact R6))
           have HRG6 := Lib.hid (range_mod HRW.out H6.out.old (fun c => c))
           clear nA R6 M6)
        | (refine wpList_load_mid rfl 32 (.tmp 32) rfl b2 (o2 + k * 36) rfl (addL (F0 k).kind (F0 k).N (F0 k).S A3 (F0 k).B.length c3 (F0 k).K) _ HRG6.out Try.underlying32 rfl HIN.out ?_)
        | (go_at_call 11
           go_loud (
             refine (laid_any (F0 k).kind (F0 k).N (F0 k).S A3 (F0 k).B.length c3 (F0 k).K (F0 k).B HOK.out.1.1 HOK.out.1.2 rfl (by have := HOK.out.2.1; omega) (by have := HOK.out.2.1; omega) (OP.rds_mod HRD.out H6.out.old)).mono ?_
             rintro e w9 ⟨A9, c9, rfl, hown9, M9⟩
             have HP9 := Lib.hid (H6.out.mod_no M9)
             have HO9 := Lib.hid hown9
             clear hown9 M9))
        | (at_builtin
           refine wpList_enc rfl (.tmp 29) (.tmp 34) rfl w9 Aa ca _ (allB F0 k) rfl rfl HP9.out.row A9 _ c9 (addA (F0 k).kind (F0 k).N (F0 k).S (F0 k).B (F0 k).K) rfl rfl (RdT.of_own HO9.out).rds HLN.out ?_
           intro A10 c10 w10 nA10 R10 M10
           have HN := Lib.hid (show ∀ va, va = Value.slice A10 (allB F0 (k + 1)).length c10 → _ from fun va hva => HP9.out.next nA10 (by rw [allB_succ]; exact R10) M10 hva)
           clear nA10 R10 M10))
      go_roundw
      case rel => exact ⟨k + 1, A7, A10, c10, HLT.out, by go_num, HN.out _ (by rw [allB_succ, List.length_append]; rfl)⟩
      case measure =>
        have := HLT.out
        try rw [hw64]
        show n - ((k : Int) + 1).toNat < n - ((k : Int)).toNat
        omega
    · obtain rfl : k = n := by omega
      have hP := HE0.out.2.2.2
      obtain ⟨A0', c', ow, hsub, hcp, hrd, hA0, how⟩ := FAt.copy HH.out.enc
      obtain ⟨p, rfl⟩ : ∃ p, ow = .pointer p := by
        rcases how with rfl | rfl
        · exact ⟨_, rfl⟩
        · exact ⟨_, rfl⟩
      have cc0 := hcp.cell 0
      have cc1 := hcp.cell 1
      simp at cc0 cc1
      have HC := Lib.hid (And.intro hsub (And.intro hcp (And.intro hrd (And.intro hA0 how))))
      clear hsub hcp hrd hA0 how
      clear hk hlt
      go_wp2_with fail
      refine HK1.out _ _ ?_
      clear HK1
      refine wp_seq_k fun K2 hK2 => ?_
      have HK2 := Lib.hid hK2
      clear hK2
      go_wp2_with fail
      refine HK2.out _ _ ?_
      clear HK2 K2
      obtain ⟨hsub, hcp, hrd, hA0, how⟩ := HC.out
      obtain ⟨hE, hm, hF, hallF⟩ := HE.out
      obtain ⟨hEb, hmb, hFb, hallFb⟩ := HEb.out
      have hs := ApH.start (W := W) HH.out.enc HH.out.row (Nat.le_refl _) HH.out.high1 HH.out.higha HH.out.apart HH.out.old hsub hA0 how hrd ((Mod.refl no wr).alloc _) (Blk.new wr 26 #[.slice A0' (allB F0 k).length c', .pointer p])
      refine loop2_any hE hm hF hallF hEb hmb hFb hallFb hP ⟨_, _, _, _, _, _, _, _, _, rfl, rfl, rfl, hs⟩ _ _ _ _ _ _ _ _ _ _ _ _ _ _ _ _ _ _ _ _ _ _ _ _ _ _ _ _ _ _ _ _ _ _ _ _ _ _ _ _ _ _ _ _ _ _ _ _ _ _ _ _ _ _ _ _ _ _ _ _ _ _ _ _ _ _ _ _ _ _ _ _ _ _ _ _ _ _ _ _ _ _ _ _ _ _ _ _ _ _ _ _ _ _ _ _ _ _ _ _ _ _ _ _ _ _ _ _ _ _ _ _ _ _ _ _ _ _ _ _ _ _ _ _ _ _ _ _ _ _ _ _ _ _ _ _ _ _ _ _ _ _ _ _ ?_
      intro u6 u9 u10 u13 u14 u15 u16 u17 u37 u38 u39 u40 u41 u42 u43 u44 u45 u46 u47 u48 u49 u50 u51 u52 u53 u54 u55 u56 u57 u58 u59 u60 u61 u62 u63 u64 u65 u66 u67 u68 u69 u70 u71 u72 u73 u74 u75 u76 u77 u78 u79 u80 u81 u82 u83 u84 u85 u86 u87 u88 u89 u90 u91 u92 u93 u94 u95 u96 u97 u98 u99 u100 u101 u102 u103 u104 u105 u106 u107 u108 u109 u110 u111 u112 u113 u114 u115 u116 u117 u118 u119 u120 u121 u122 u123 u124 u125 u126 u127 u128 u129 u130 u131 u132 u133 u134 u135 u136 u137 u138 u139 u140 u141 u142 u143 u144 u145 u146 u147 u148 u149 w9 h6 M9
      subst h6
      go_ret
      exact ⟨rfl, M9⟩

end Go.Proofs.Ytpfkcejndjnbhaa.AP
