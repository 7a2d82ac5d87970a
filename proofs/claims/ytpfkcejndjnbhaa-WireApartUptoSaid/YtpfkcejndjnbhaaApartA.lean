/- The law WireApart: a round of the second loop, its two halves (printed by wireapart.py). -/
import Derived.Test.YtpfkcejndjnbhaaApartM
import Derived.StillTailTactics
namespace Go.Proofs.Ytpfkcejndjnbhaa.AP
open Go.RowKit Mem WM
open Go.Proofs.Ytpfkcejndjnbhaa.WD (RdT RdB u8_info own_mod key_size rowS conv_string)
open Go.Proofs.Ytpfkcejndjnbhaa.OP (AddI AddAt allB allB_0 allB_succ Elems cell_lt atA copied_r)
open Go.Proofs.Ytpfkcejndjnbhaa.EN
open Go.Proofs.Ytpfkcejndjnbhaa.EK (RdT.pre Safe nextK)
open Go.Proofs.Ytpfkcejndjnbhaa.AD (Enc0)
open Go.Proofs.Ytpfkcejndjnbhaa.BK (conv_rds add_range range_mod add_info allB_le)
open Go.Proofs.Ytpfkcejndjnbhaa.ON (addL_len)
set_option linter.unusedVariables false
set_option linter.unusedSimpArgs false

def sR : Code → Code | .seq _ b => b | c => c
def sL : Code → Code | .seq a _ => a | c => c
def inL : Code → Code | .loop c => c | .block _ c => c | .scope c => c | c => c
noncomputable def bodyC : Code := Try.f3.body.getD .skip
noncomputable def loop2C : Code := sR (sR (sR (sR (sR bodyC))))
noncomputable def t0C : Code := sR loop2C
noncomputable def round2C : Code := inL (inL (sR (sL loop2C)))
noncomputable def abC : Code := inL (sL (sR round2C))
noncomputable def aC : Code := sL abC
noncomputable def bC : Code := sR abC
noncomputable def t1C : Code := sR (sR (sR t0C))
noncomputable def t2C : Code := sR t1C
noncomputable def t3C : Code := sR t2C

/-- What is held by turns, with the three texts' slices. -/
def ApS (W : World) (q r : Nat) (P X Y : List UInt8) (va vo vt : Value) (wr : World) : Prop :=
  ∃ (A0 A1 A2 Aa Ao At : Option Addr) (ca co ct : Nat), va = .slice Aa P.length ca ∧ vo = .slice Ao X.length co ∧ vt = .slice At Y.length ct ∧ ApH W q r P X Y X Y wr A0 A1 A2 Aa Ao At ca co ct

set_option maxRecDepth 100000 in
set_option maxHeartbeats 4000000 in
theorem half_a {W : World} {A : Option Addr} {m c : Nat} {E : Nat → List Value} {F : Nat → AddI} (hE : Elems W A m 36 E) (hm : m ≤ 1048576)
    (hF : ∀ i, i < m → AddAt W (E i) (F i) ∧ (F i).ok ∧ (F i).S.length + (F i).B.length ≤ 1048576) (hallF : (allB F m).length ≤ 60000000)
    {q r k : Nat} (hk : k < 1048576) {P Y : List UInt8} (hP : P.length ≤ 60000000) {va vo vt : Value} {wr : World} (H : ApS W q r P (allB F (min k m)) Y va vo vt wr)
    (d0 d2 d3 d4 d5 d6 d11 d12 d14 d15 d16 d17 d18 d19 d20 d21 d22 d23 d24 d25 d26 d27 d28 d29 d30 d31 d32 d33 d34 d35 d36 d37 d38 d39 d40 d41 d42 d43 d44 d45 d46 d47 d48 d49 d50 d51 d52 d53 d54 d55 d56 d57 d58 d59 d60 d61 d62 d63 d64 d65 d66 d67 d68 d69 d70 d71 d72 d73 d74 d75 d76 d77 d78 d79 d80 d81 d82 d83 d84 d85 d86 d87 d88 d89 d90 d91 d92 d93 d94 d95 d96 d97 d98 d99 d100 d101 d102 d103 d104 d105 d106 d107 d108 d109 d110 d111 d112 d113 d114 d115 d116 d117 d118 d119 d120 d121 d122 d123 d124 d125 d126 d127 d128 d129 d130 d131 d132 d133 d134 d135 d136 d137 d138 d139 d140 d141 d142 d143 d144 d145 d146 d147 d148 d149 : Value) (Q : Exit → Act → World → Prop)
    (hexit : ∀ (u9 u49 u50 u51 u52 u53 u54 u55 u56 u57 u58 u59 u60 u61 u62 u63 u64 : Value) (w' : World), ApS W q r P (allB F (min (k + 1) m)) Y va u9 vt w' → Q .normal ⟨List.toArray (d0 :: (.slice A m c) :: d2 :: d3 :: d4 :: d5 :: d6 :: (.pointer (some ⟨q, 0, none⟩)) :: (va) :: u9 :: (vt) :: d11 :: d12 :: (.int .i64 (k : Int)) :: d14 :: d15 :: d16 :: d17 :: d18 :: d19 :: d20 :: d21 :: d22 :: d23 :: d24 :: d25 :: d26 :: d27 :: d28 :: d29 :: d30 :: d31 :: d32 :: d33 :: d34 :: d35 :: d36 :: d37 :: d38 :: d39 :: d40 :: d41 :: d42 :: d43 :: d44 :: d45 :: d46 :: d47 :: d48 :: u49 :: u50 :: u51 :: u52 :: u53 :: u54 :: u55 :: u56 :: u57 :: u58 :: u59 :: u60 :: u61 :: u62 :: u63 :: u64 :: d65 :: d66 :: d67 :: d68 :: d69 :: d70 :: d71 :: d72 :: d73 :: d74 :: d75 :: d76 :: d77 :: d78 :: d79 :: d80 :: d81 :: d82 :: d83 :: d84 :: d85 :: d86 :: d87 :: d88 :: d89 :: d90 :: d91 :: d92 :: d93 :: d94 :: d95 :: d96 :: d97 :: d98 :: d99 :: d100 :: d101 :: d102 :: d103 :: d104 :: d105 :: d106 :: d107 :: d108 :: d109 :: d110 :: d111 :: d112 :: d113 :: d114 :: d115 :: d116 :: d117 :: d118 :: d119 :: d120 :: d121 :: d122 :: d123 :: d124 :: d125 :: d126 :: d127 :: d128 :: d129 :: d130 :: d131 :: d132 :: d133 :: d134 :: d135 :: d136 :: d137 :: d138 :: d139 :: d140 :: d141 :: d142 :: d143 :: d144 :: d145 :: d146 :: d147 :: d148 :: d149 :: []), []⟩ w') :
    Code.wp Try.prog aC Q ⟨List.toArray (d0 :: (.slice A m c) :: d2 :: d3 :: d4 :: d5 :: d6 :: (.pointer (some ⟨q, 0, none⟩)) :: (va) :: (vo) :: (vt) :: d11 :: d12 :: (.int .i64 (k : Int)) :: d14 :: d15 :: d16 :: d17 :: d18 :: d19 :: d20 :: d21 :: d22 :: d23 :: d24 :: d25 :: d26 :: d27 :: d28 :: d29 :: d30 :: d31 :: d32 :: d33 :: d34 :: d35 :: d36 :: d37 :: d38 :: d39 :: d40 :: d41 :: d42 :: d43 :: d44 :: d45 :: d46 :: d47 :: d48 :: d49 :: d50 :: d51 :: d52 :: d53 :: d54 :: d55 :: d56 :: d57 :: d58 :: d59 :: d60 :: d61 :: d62 :: d63 :: d64 :: d65 :: d66 :: d67 :: d68 :: d69 :: d70 :: d71 :: d72 :: d73 :: d74 :: d75 :: d76 :: d77 :: d78 :: d79 :: d80 :: d81 :: d82 :: d83 :: d84 :: d85 :: d86 :: d87 :: d88 :: d89 :: d90 :: d91 :: d92 :: d93 :: d94 :: d95 :: d96 :: d97 :: d98 :: d99 :: d100 :: d101 :: d102 :: d103 :: d104 :: d105 :: d106 :: d107 :: d108 :: d109 :: d110 :: d111 :: d112 :: d113 :: d114 :: d115 :: d116 :: d117 :: d118 :: d119 :: d120 :: d121 :: d122 :: d123 :: d124 :: d125 :: d126 :: d127 :: d128 :: d129 :: d130 :: d131 :: d132 :: d133 :: d134 :: d135 :: d136 :: d137 :: d138 :: d139 :: d140 :: d141 :: d142 :: d143 :: d144 :: d145 :: d146 :: d147 :: d148 :: d149 :: []), []⟩ wr := by
  have HLE := Lib.hid hexit
  clear hexit
  by_cases hlt : k < m
  · rw [Nat.min_eq_left (by omega)] at H
    rw [Nat.min_eq_left (by omega)] at HLE
    obtain ⟨A0, A1, A2, Aa, Ao, At, ca, co, ct, rfl, rfl, rfl, H⟩ := H
    have HH := Lib.hid H
    obtain ⟨cq, hcq⟩ := H.e.blk
    have HCQ := Lib.hid hcq
    obtain ⟨b2, o2, rfl, hcells⟩ := hE (by omega)
    have hel := hcells k hlt
    obtain ⟨⟨A3, c3, hEk, hrd⟩, hok, hsz⟩ := hF k hlt
    have hrgW := add_range (n := m) hel
    rw [hEk] at hrgW
    have hb2 : b2 < W.heap.size := by
      have := hrgW 0 _ rfl
      exact OP.cell_lt this
    have HRG := Lib.hid (range_mod hrgW H.old (fun c => c))
    have HRW := Lib.hid hrgW
    have HIN := Lib.hid (add_info (addL_len (F k).kind (F k).N (F k).S A3 (F k).B.length c3 (F k).K hok.2))
    have HRD := Lib.hid hrd
    have HOK := Lib.hid (And.intro hok (And.intro hsz hb2))
    have hle := allB_le F (show k + 1 ≤ m by omega)
    have hle0 := allB_le F (show k ≤ m by omega)
    have HSZ := Lib.hid (show (P ++ allB F k).length + (F k).S.length + (F k).B.length ≤ 140737400000000 by rw [List.length_append]; omega)
    have HLN := Lib.hid (show (allB F k).length + (addA (F k).kind (F k).N (F k).S (F k).B (F k).K).length ≤ 140737488000000 by
      rw [allB_succ, List.length_append] at hle
      have : (F k).bytes = addA (F k).kind (F k).N (F k).S (F k).B (F k).K := rfl
      rw [this] at hle
      omega)
    have hkm : (k : Int) < (m : Int) := by omega
    have hk0 : (0 : Int) ≤ (k : Int) := by omega
    clear hcq hcells hel hrgW hrd hok hsz hEk hb2 hE hF hle hle0 H hlt hk
    conv => arg 2; whnf
    go_wp2_with (first
      | (refine wpList_load_mid rfl 32 (.tmp 55) rfl b2 (o2 + k * 36) rfl (addL (F k).kind (F k).N (F k).S A3 (F k).B.length c3 (F k).K) _ HRG.out Try.underlying32 rfl HIN.out ?_)
      | (go_at_call 10
         refine (put_0K (F k).kind (F k).N (F k).S A3 (F k).B.length c3 (F k).K (F k).B HH.out.e HOK.out.1.1 HOK.out.1.2 rfl HSZ.out (OP.rds_mod HRD.out HH.out.old) ?_).mono ?_
         · intro hp ad e
           subst e
           obtain ⟨ad', e', hc⟩ := HRD.out.2 hp
           injection e' with e'
           subst e'
           have h1 := OP.cell_lt (hc 0 _ (bvs_get _ 0 hp))
           have h2 : (ad.add 0).block = ad.block := by simp [Addr.add]
           rw [h2] at h1
           exact ⟨by have := HH.out.hq; omega, fun c => by have := HH.out.h1 _ (show atA _ ad.block from c); omega⟩
         rintro e w6 ⟨rfl, A7, nA, R6, M6⟩
         have H6 := Lib.hid (HH.out.putE nA R6 M6)
         have HRG6 := Lib.hid (range_mod HRW.out H6.out.old (fun c => c))
         clear nA R6 M6)
      | (refine wpList_load_mid rfl 32 (.tmp 61) rfl b2 (o2 + k * 36) rfl (addL (F k).kind (F k).N (F k).S A3 (F k).B.length c3 (F k).K) _ HRG6.out Try.underlying32 rfl HIN.out ?_)
      | (go_at_call 11
         go_loud (
           refine (laid_any (F k).kind (F k).N (F k).S A3 (F k).B.length c3 (F k).K (F k).B HOK.out.1.1 HOK.out.1.2 rfl (by have := HOK.out.2.1; omega) (by have := HOK.out.2.1; omega) (OP.rds_mod HRD.out H6.out.old)).mono ?_
           rintro e w9 ⟨A9, c9, rfl, hown9, M9⟩
           have HP9 := Lib.hid (H6.out.mod_no M9)
           have HO9 := Lib.hid hown9
           clear hown9 M9))
      | (at_builtin
         refine wpList_enc rfl (.tmp 58) (.tmp 63) rfl w9 Ao co _ (allB F k) rfl rfl HP9.out.ro A9 _ c9 (addA (F k).kind (F k).N (F k).S (F k).B (F k).K) rfl rfl (RdT.of_own HO9.out).rds HLN.out ?_
         intro A10 c10 w10 nA10 R10 M10
         have HR10 := Lib.hid (HP9.out.one nA10 R10 M10)
         clear nA10 R10 M10))
    refine HLE.out _ _ _ _ _ _ _ _ _ _ _ _ _ _ _ _ _ _ ?_
    have e1 : allB F (k + 1) = allB F k ++ addA (F k).kind (F k).N (F k).S (F k).B (F k).K := allB_succ F k
    rw [e1]
    refine ⟨_, _, _, _, _, _, _, _, _, rfl, ?_, ?_, HR10.out⟩
    all_goals first | rfl | (rw [List.length_append])
  · rw [Nat.min_eq_right (by omega)] at H
    rw [Nat.min_eq_right (by omega)] at HLE
    have hkm : ¬ (k : Int) < (m : Int) := by omega
    have HS := Lib.hid H
    clear H hlt hk hE hF
    conv => arg 2; whnf
    go_wp2_with fail
    exact HLE.out vo _ _ _ _ _ _ _ _ _ _ _ _ _ _ _ _ _ HS.out

set_option maxRecDepth 100000 in
set_option maxHeartbeats 4000000 in
theorem half_b {W : World} {A : Option Addr} {m c : Nat} {E : Nat → List Value} {F : Nat → AddI} (hE : Elems W A m 36 E) (hm : m ≤ 1048576)
    (hF : ∀ i, i < m → AddAt W (E i) (F i) ∧ (F i).ok ∧ (F i).S.length + (F i).B.length ≤ 1048576) (hallF : (allB F m).length ≤ 60000000)
    {q r k : Nat} (hk : k < 1048576) {P X : List UInt8} (hP : P.length ≤ 60000000) {va vo vt : Value} {wr : World} (H : ApS W q r P X (allB F (min k m)) va vo vt wr)
    (d0 d1 d3 d4 d5 d6 d7 d11 d14 d15 d16 d17 d18 d19 d20 d21 d22 d23 d24 d25 d26 d27 d28 d29 d30 d31 d32 d33 d34 d35 d36 d37 d38 d39 d40 d41 d42 d43 d44 d45 d46 d47 d48 d49 d50 d51 d52 d53 d54 d55 d56 d57 d58 d59 d60 d61 d62 d63 d64 d65 d66 d67 d68 d69 d70 d71 d72 d73 d74 d75 d76 d77 d78 d79 d80 d81 d82 d83 d84 d85 d86 d87 d88 d89 d90 d91 d92 d93 d94 d95 d96 d97 d98 d99 d100 d101 d102 d103 d104 d105 d106 d107 d108 d109 d110 d111 d112 d113 d114 d115 d116 d117 d118 d119 d120 d121 d122 d123 d124 d125 d126 d127 d128 d129 d130 d131 d132 d133 d134 d135 d136 d137 d138 d139 d140 d141 d142 d143 d144 d145 d146 d147 d148 d149 : Value) (Q : Exit → Act → World → Prop)
    (hexit : ∀ (u10 u65 u66 u67 u68 u69 u70 u71 u72 u73 u74 u75 u76 u77 u78 u79 u80 : Value) (w' : World), ApS W q r P X (allB F (min (k + 1) m)) va vo u10 w' → Q .normal ⟨List.toArray (d0 :: d1 :: (.slice A m c) :: d3 :: d4 :: d5 :: d6 :: d7 :: (va) :: (vo) :: u10 :: d11 :: (.pointer (some ⟨r, 0, none⟩)) :: (.int .i64 (k : Int)) :: d14 :: d15 :: d16 :: d17 :: d18 :: d19 :: d20 :: d21 :: d22 :: d23 :: d24 :: d25 :: d26 :: d27 :: d28 :: d29 :: d30 :: d31 :: d32 :: d33 :: d34 :: d35 :: d36 :: d37 :: d38 :: d39 :: d40 :: d41 :: d42 :: d43 :: d44 :: d45 :: d46 :: d47 :: d48 :: d49 :: d50 :: d51 :: d52 :: d53 :: d54 :: d55 :: d56 :: d57 :: d58 :: d59 :: d60 :: d61 :: d62 :: d63 :: d64 :: u65 :: u66 :: u67 :: u68 :: u69 :: u70 :: u71 :: u72 :: u73 :: u74 :: u75 :: u76 :: u77 :: u78 :: u79 :: u80 :: d81 :: d82 :: d83 :: d84 :: d85 :: d86 :: d87 :: d88 :: d89 :: d90 :: d91 :: d92 :: d93 :: d94 :: d95 :: d96 :: d97 :: d98 :: d99 :: d100 :: d101 :: d102 :: d103 :: d104 :: d105 :: d106 :: d107 :: d108 :: d109 :: d110 :: d111 :: d112 :: d113 :: d114 :: d115 :: d116 :: d117 :: d118 :: d119 :: d120 :: d121 :: d122 :: d123 :: d124 :: d125 :: d126 :: d127 :: d128 :: d129 :: d130 :: d131 :: d132 :: d133 :: d134 :: d135 :: d136 :: d137 :: d138 :: d139 :: d140 :: d141 :: d142 :: d143 :: d144 :: d145 :: d146 :: d147 :: d148 :: d149 :: []), []⟩ w') :
    Code.wp Try.prog bC Q ⟨List.toArray (d0 :: d1 :: (.slice A m c) :: d3 :: d4 :: d5 :: d6 :: d7 :: (va) :: (vo) :: (vt) :: d11 :: (.pointer (some ⟨r, 0, none⟩)) :: (.int .i64 (k : Int)) :: d14 :: d15 :: d16 :: d17 :: d18 :: d19 :: d20 :: d21 :: d22 :: d23 :: d24 :: d25 :: d26 :: d27 :: d28 :: d29 :: d30 :: d31 :: d32 :: d33 :: d34 :: d35 :: d36 :: d37 :: d38 :: d39 :: d40 :: d41 :: d42 :: d43 :: d44 :: d45 :: d46 :: d47 :: d48 :: d49 :: d50 :: d51 :: d52 :: d53 :: d54 :: d55 :: d56 :: d57 :: d58 :: d59 :: d60 :: d61 :: d62 :: d63 :: d64 :: d65 :: d66 :: d67 :: d68 :: d69 :: d70 :: d71 :: d72 :: d73 :: d74 :: d75 :: d76 :: d77 :: d78 :: d79 :: d80 :: d81 :: d82 :: d83 :: d84 :: d85 :: d86 :: d87 :: d88 :: d89 :: d90 :: d91 :: d92 :: d93 :: d94 :: d95 :: d96 :: d97 :: d98 :: d99 :: d100 :: d101 :: d102 :: d103 :: d104 :: d105 :: d106 :: d107 :: d108 :: d109 :: d110 :: d111 :: d112 :: d113 :: d114 :: d115 :: d116 :: d117 :: d118 :: d119 :: d120 :: d121 :: d122 :: d123 :: d124 :: d125 :: d126 :: d127 :: d128 :: d129 :: d130 :: d131 :: d132 :: d133 :: d134 :: d135 :: d136 :: d137 :: d138 :: d139 :: d140 :: d141 :: d142 :: d143 :: d144 :: d145 :: d146 :: d147 :: d148 :: d149 :: []), []⟩ wr := by
  have HLE := Lib.hid hexit
  clear hexit
  by_cases hlt : k < m
  · rw [Nat.min_eq_left (by omega)] at H
    rw [Nat.min_eq_left (by omega)] at HLE
    obtain ⟨A0, A1, A2, Aa, Ao, At, ca, co, ct, rfl, rfl, rfl, H⟩ := H
    have HH := Lib.hid H
    obtain ⟨cq, hcq⟩ := H.e.blk
    have HCQ := Lib.hid hcq
    obtain ⟨b2, o2, rfl, hcells⟩ := hE (by omega)
    have hel := hcells k hlt
    obtain ⟨⟨A3, c3, hEk, hrd⟩, hok, hsz⟩ := hF k hlt
    have hrgW := add_range (n := m) hel
    rw [hEk] at hrgW
    have hb2 : b2 < W.heap.size := by
      have := hrgW 0 _ rfl
      exact OP.cell_lt this
    have HRG := Lib.hid (range_mod hrgW H.old (fun c => c))
    have HRW := Lib.hid hrgW
    have HIN := Lib.hid (add_info (addL_len (F k).kind (F k).N (F k).S A3 (F k).B.length c3 (F k).K hok.2))
    have HRD := Lib.hid hrd
    have HOK := Lib.hid (And.intro hok (And.intro hsz hb2))
    have hle := allB_le F (show k + 1 ≤ m by omega)
    have hle0 := allB_le F (show k ≤ m by omega)
    have HSZ := Lib.hid (show (P ++ allB F k).length + (F k).S.length + (F k).B.length ≤ 140737400000000 by rw [List.length_append]; omega)
    have HLN := Lib.hid (show (allB F k).length + (addA (F k).kind (F k).N (F k).S (F k).B (F k).K).length ≤ 140737488000000 by
      rw [allB_succ, List.length_append] at hle
      have : (F k).bytes = addA (F k).kind (F k).N (F k).S (F k).B (F k).K := rfl
      rw [this] at hle
      omega)
    have hkm : (k : Int) < (m : Int) := by omega
    have hk0 : (0 : Int) ≤ (k : Int) := by omega
    clear hcq hcells hel hrgW hrd hok hsz hEk hb2 hE hF hle hle0 H hlt hk
    conv => arg 2; whnf
    go_wp2_with (first
      | (refine wpList_load_mid rfl 32 (.tmp 71) rfl b2 (o2 + k * 36) rfl (addL (F k).kind (F k).N (F k).S A3 (F k).B.length c3 (F k).K) _ HRG.out Try.underlying32 rfl HIN.out ?_)
      | (go_at_call 10
         refine (put_FK (F k).kind (F k).N (F k).S A3 (F k).B.length c3 (F k).K (F k).B HH.out.f HH.out.qr HCQ.out HOK.out.1.1 HOK.out.1.2 rfl HSZ.out (OP.rds_mod HRD.out HH.out.old) ?_).mono ?_
         · intro hp ad e
           subst e
           obtain ⟨ad', e', hc⟩ := HRD.out.2 hp
           injection e' with e'
           subst e'
           have h1 := OP.cell_lt (hc 0 _ (bvs_get _ 0 hp))
           have h2 : (ad.add 0).block = ad.block := by simp [Addr.add]
           rw [h2] at h1
           exact ⟨by have := HH.out.hr; omega, fun c => by have := HH.out.h2 _ (show atA _ ad.block from c); omega⟩
         rintro e w6 ⟨rfl, A7, nA, R6, M6⟩
         have H6 := Lib.hid (HH.out.putF nA R6 M6)
         have HRG6 := Lib.hid (range_mod HRW.out H6.out.old (fun c => c))
         clear nA R6 M6)
      | (refine wpList_load_mid rfl 32 (.tmp 77) rfl b2 (o2 + k * 36) rfl (addL (F k).kind (F k).N (F k).S A3 (F k).B.length c3 (F k).K) _ HRG6.out Try.underlying32 rfl HIN.out ?_)
      | (go_at_call 11
         go_loud (
           refine (laid_any (F k).kind (F k).N (F k).S A3 (F k).B.length c3 (F k).K (F k).B HOK.out.1.1 HOK.out.1.2 rfl (by have := HOK.out.2.1; omega) (by have := HOK.out.2.1; omega) (OP.rds_mod HRD.out H6.out.old)).mono ?_
           rintro e w9 ⟨A9, c9, rfl, hown9, M9⟩
           have HP9 := Lib.hid (H6.out.mod_no M9)
           have HO9 := Lib.hid hown9
           clear hown9 M9))
      | (at_builtin
         refine wpList_enc rfl (.tmp 74) (.tmp 79) rfl w9 At ct _ (allB F k) rfl rfl HP9.out.rt A9 _ c9 (addA (F k).kind (F k).N (F k).S (F k).B (F k).K) rfl rfl (RdT.of_own HO9.out).rds HLN.out ?_
         intro A10 c10 w10 nA10 R10 M10
         have HR10 := Lib.hid (HP9.out.two nA10 R10 M10)
         clear nA10 R10 M10))
    refine HLE.out _ _ _ _ _ _ _ _ _ _ _ _ _ _ _ _ _ _ ?_
    have e1 : allB F (k + 1) = allB F k ++ addA (F k).kind (F k).N (F k).S (F k).B (F k).K := allB_succ F k
    rw [e1]
    refine ⟨_, _, _, _, _, _, _, _, _, rfl, ?_, ?_, HR10.out⟩
    all_goals first | rfl | (rw [List.length_append])
  · rw [Nat.min_eq_right (by omega)] at H
    rw [Nat.min_eq_right (by omega)] at HLE
    have hkm : ¬ (k : Int) < (m : Int) := by omega
    have HS := Lib.hid H
    clear H hlt hk hE hF
    conv => arg 2; whnf
    go_wp2_with fail
    exact HLE.out vt _ _ _ _ _ _ _ _ _ _ _ _ _ _ _ _ _ HS.out

end Go.Proofs.Ytpfkcejndjnbhaa.AP
