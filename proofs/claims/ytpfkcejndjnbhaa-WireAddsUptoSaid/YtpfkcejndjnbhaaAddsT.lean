/- The law WireAdds: the code behind the second loop, case by case. -/
import Derived.Test.YtpfkcejndjnbhaaAddsM
import Derived.StillTailTactics
namespace Go.Proofs.Ytpfkcejndjnbhaa.AD
open Go.RowKit Mem WM
open Go.Proofs.Ytpfkcejndjnbhaa.WD (RdT RdB u8_info own_mod key_size rowS conv_string wpList_put1)
open Go.Proofs.Ytpfkcejndjnbhaa.OP (AddI AddAt allB allB_0 allB_succ Elems cell_lt atA copied_r)
open Go.Proofs.Ytpfkcejndjnbhaa.EN
open Go.Proofs.Ytpfkcejndjnbhaa.BK (conv_rds add_range range_mod add_info allB_le)
open Go.Proofs.Ytpfkcejndjnbhaa.ON (wpList_laid addL_len)
set_option linter.unusedVariables false
set_option linter.unusedSimpArgs false

def sR : Code → Code | .seq _ b => b | c => c
def sL : Code → Code | .seq a _ => a | c => c
def inL : Code → Code | .loop c => c | .block _ c => c | .scope c => c | c => c
noncomputable def lastC : Code := sR (sR (sR (sR (sR (sR (sR (Try.f4.body.getD .skip)))))))
noncomputable def roundC : Code := inL (inL (sR (sL (sR (sR (sR (sR (sR (sR (Try.f4.body.getD .skip))))))))))
noncomputable def tailC : Code := sR (sR (sR (sR (sR (inL (sL (sR roundC)))))))

/-- What a round hands on. -/
def Handed (W : World) (F : Nat → AddI) (k : Nat) (va vk vw : Value) (wr : World) : Prop :=
  ∃ (A1 Aa : Option Addr) (ca : Nat) (L : List KR), L.length ≤ k ∧ (∀ x ∈ L, x.l.length ≤ 60000000) ∧ AddsH W F W.heap.size k va vk vw wr A1 Aa ca L

set_option maxRecDepth 100000 in
set_option maxHeartbeats 4000000 in
theorem tail_none {W : World} {A : Option Addr} {n c : Nat} {E : Nat → List Value} {F : Nat → AddI} (hE : Elems W A n 36 E) (hn : n ≤ 1048576)
    (hF : ∀ i, i < n → AddAt W (E i) (F i) ∧ (F i).ok ∧ (F i).S.length + (F i).B.length ≤ 1048576) (hall : (allB F n).length ≤ 60000000)
    {A2 : Option Addr} {m c2 : Nat} {E2 : Nat → List Value} (hE2 : Elems W A2 m 1 E2) (hm : m ≤ 1048576) (hT : ∀ i, i < m → ∃ b : Bool, E2 i = [.bool b])
    {k : Nat} (hlt : k < n) (hkm : ¬ k < m) {vk vw : Value} {wr : World} {A1 Aa : Option Addr} {ca : Nat} {L : List KR}
    (HP8 : AddsP W F W.heap.size k vk vw wr A1 Aa ca L) (hL : L.length ≤ k ∧ ∀ x ∈ L, x.l.length ≤ 60000000)
    (d2 d3 d4 d10 d11 d12 d13 d14 d15 d16 d17 d18 d19 d20 d21 d22 d23 d24 d25 d26 d27 d28 d29 d30 d31 d32 d33 d34 d35 d36 d37 d38 d39 d40 d41 d42 d43 d44 d45 d46 d47 d48 d49 d50 d51 d52 d53 d54 d55 d56 d57 d58 d59 d60 d61 d62 d63 d64 d65 d66 d67 d68 d69 d70 d71 d72 d73 d74 d75 d76 d77 d78 d79 d80 d81 d82 d83 d84 d85 d86 d87 d88 d89 d90 d91 d92 d93 d94 d95 d96 d97 d98 d99 d100 d101 d102 d103 d104 d105 d106 d107 d108 d109 d110 d111 d112 d113 d114 d115 d116 d117 d118 d119 d120 : Value) (Q : Exit → Act → World → Prop)
    (hexit : ∀ (u6 u7 u8 u12 u67 u68 u69 u70 u71 u72 u73 u74 u75 u76 u77 u78 u79 u80 u81 u82 u83 u84 u85 u86 u87 u88 u89 u90 u91 u92 u93 : Value) (w' : World), Handed W F (k + 1) u6 u7 u8 w' → Q .normal ⟨List.toArray ((.slice A n c) :: (.slice A2 m c2) :: d2 :: d3 :: d4 :: (.pointer (some ⟨W.heap.size, 0, none⟩)) :: u6 :: u7 :: u8 :: (.int .i64 (k : Int)) :: d10 :: d11 :: u12 :: d13 :: d14 :: d15 :: d16 :: d17 :: d18 :: d19 :: d20 :: d21 :: d22 :: d23 :: d24 :: d25 :: d26 :: d27 :: d28 :: d29 :: d30 :: d31 :: d32 :: d33 :: d34 :: d35 :: d36 :: d37 :: d38 :: d39 :: d40 :: d41 :: d42 :: d43 :: d44 :: d45 :: d46 :: d47 :: d48 :: d49 :: d50 :: d51 :: d52 :: d53 :: d54 :: d55 :: d56 :: d57 :: d58 :: d59 :: d60 :: d61 :: d62 :: d63 :: d64 :: d65 :: d66 :: u67 :: u68 :: u69 :: u70 :: u71 :: u72 :: u73 :: u74 :: u75 :: u76 :: u77 :: u78 :: u79 :: u80 :: u81 :: u82 :: u83 :: u84 :: u85 :: u86 :: u87 :: u88 :: u89 :: u90 :: u91 :: u92 :: u93 :: d94 :: d95 :: d96 :: d97 :: d98 :: d99 :: d100 :: d101 :: d102 :: d103 :: d104 :: d105 :: d106 :: d107 :: d108 :: d109 :: d110 :: d111 :: d112 :: d113 :: d114 :: d115 :: d116 :: d117 :: d118 :: d119 :: d120 :: []), []⟩ w') :
    Code.wp Try.prog tailC Q ⟨List.toArray ((.slice A n c) :: (.slice A2 m c2) :: d2 :: d3 :: d4 :: (.pointer (some ⟨W.heap.size, 0, none⟩)) :: (.slice Aa (allB F k).length ca) :: (vk) :: (vw) :: (.int .i64 (k : Int)) :: d10 :: d11 :: d12 :: d13 :: d14 :: d15 :: d16 :: d17 :: d18 :: d19 :: d20 :: d21 :: d22 :: d23 :: d24 :: d25 :: d26 :: d27 :: d28 :: d29 :: d30 :: d31 :: d32 :: d33 :: d34 :: d35 :: d36 :: d37 :: d38 :: d39 :: d40 :: d41 :: d42 :: d43 :: d44 :: d45 :: d46 :: d47 :: d48 :: d49 :: d50 :: d51 :: d52 :: d53 :: d54 :: d55 :: d56 :: d57 :: d58 :: d59 :: d60 :: d61 :: d62 :: d63 :: d64 :: d65 :: d66 :: d67 :: d68 :: d69 :: d70 :: d71 :: d72 :: d73 :: d74 :: d75 :: d76 :: d77 :: d78 :: d79 :: d80 :: d81 :: d82 :: d83 :: d84 :: d85 :: d86 :: d87 :: d88 :: d89 :: d90 :: d91 :: d92 :: d93 :: d94 :: d95 :: d96 :: d97 :: d98 :: d99 :: d100 :: d101 :: d102 :: d103 :: d104 :: d105 :: d106 :: d107 :: d108 :: d109 :: d110 :: d111 :: d112 :: d113 :: d114 :: d115 :: d116 :: d117 :: d118 :: d119 :: d120 :: []), []⟩ wr := by
  have HALL := Lib.hid hall
  have HLK := Lib.hid hL
  have HLE := Lib.hid hexit
  clear hexit
  obtain ⟨b2, o2, rfl, hcells⟩ := hE (by omega)
  have hel := hcells k hlt
  obtain ⟨⟨A3, c3, hEk, hrd⟩, hok, hsz⟩ := hF k hlt
  have hrgW := add_range (n := n) hel
  rw [hEk] at hrgW
  have hb2 : b2 < W.heap.size := by
    have := hrgW 0 _ rfl
    exact OP.cell_lt this
  have HRG8 := Lib.hid (range_mod hrgW HP8.old (fun c => c))
  have HIN := Lib.hid (add_info (addL_len (F k).kind (F k).N (F k).S A3 (F k).B.length c3 (F k).K hok.2))
  have HRD := Lib.hid hrd
  have HOK := Lib.hid (And.intro hok (And.intro hsz hb2))
  have HSZ := Lib.hid (show (allB F k).length + (addA (F k).kind (F k).N (F k).S (F k).B (F k).K).length ≤ 140737488000000 by
    have h2 := allB_le F (show k + 1 ≤ n by omega)
    rw [allB_succ, List.length_append] at h2
    have h3 : (F k).bytes.length = (addA (F k).kind (F k).N (F k).S (F k).B (F k).K).length := rfl
    omega)
  have hkn' : (k : Int) < (n : Int) := by omega
  have hkm' : ¬ (k : Int) < (m : Int) := by omega
  have HKN := Lib.hid (And.intro hlt (And.intro hn hm))
  have H8 := Lib.hid HP8
  clear hkm hlt hn hm hcells hel hrgW hrd hok hsz hEk hb2 hE2 hF hall hT HP8 hL
  conv => arg 2; whnf
  go_wp2_with (first
    | (go_at_call 11
       refine (laid_any (F k).kind (F k).N (F k).S A3 (F k).B.length c3 (F k).K (F k).B HOK.out.1.1 HOK.out.1.2 rfl (by have := HOK.out.2.1; omega) (by have := HOK.out.2.1; omega) (OP.rds_mod HRD.out H8.out.old)).mono ?_
       rintro e w9 ⟨A9, c9, rfl, hown9, M9⟩
       have HP9 := Lib.hid (H8.out.mod_no M9)
       have HO9 := Lib.hid hown9
       clear hown9 M9)
    | (at_builtin
       refine wpList_enc rfl (.tmp 67) (.tmp 72) rfl w9 Aa ca _ (allB F k) rfl rfl HP9.out.row A9 _ c9 (addA (F k).kind (F k).N (F k).S (F k).B (F k).K) rfl rfl (RdT.of_own HO9.out).rds HSZ.out ?_
       intro A10 c10 w10 nA10 R10 M10
       have HR10 := Lib.hid R10
       have HN := Lib.hid (show ∀ va, va = Value.slice A10 (allB F (k + 1)).length c10 → _ from fun va hva => HP9.out.next nA10 (by rw [allB_succ]; exact R10) M10 hva)
       have HO10 := Lib.hid (HN.out _ rfl).old
       clear nA10 R10 M10)
    | (refine wpList_load_mid rfl 32 (.tmp 70) rfl b2 (o2 + k * 36) rfl (addL (F k).kind (F k).N (F k).S A3 (F k).B.length c3 (F k).K) _ HRG8.out Try.underlying32 rfl HIN.out ?_)
)
  refine HLE.out _ _ _ _ _ _ _ _ _ _ _ _ _ _ _ _ _ _ _ _ _ _ _ _ _ _ _ _ _ _ _ _ ?_
  exact ⟨A1, A10, c10, L, by have := HLK.out.1; omega, HLK.out.2, HN.out _ (by rw [allB_succ, List.length_append]; rfl)⟩

set_option maxRecDepth 100000 in
set_option maxHeartbeats 4000000 in
theorem tail_false {W : World} {A : Option Addr} {n c : Nat} {E : Nat → List Value} {F : Nat → AddI} (hE : Elems W A n 36 E) (hn : n ≤ 1048576)
    (hF : ∀ i, i < n → AddAt W (E i) (F i) ∧ (F i).ok ∧ (F i).S.length + (F i).B.length ≤ 1048576) (hall : (allB F n).length ≤ 60000000)
    {A2 : Option Addr} {m c2 : Nat} {E2 : Nat → List Value} (hE2 : Elems W A2 m 1 E2) (hm : m ≤ 1048576) (hT : ∀ i, i < m → ∃ b : Bool, E2 i = [.bool b])
    {k : Nat} (hlt : k < n) (hkm : k < m) (hbb : E2 k = [.bool false]) {vk vw : Value} {wr : World} {A1 Aa : Option Addr} {ca : Nat} {L : List KR}
    (HP8 : AddsP W F W.heap.size k vk vw wr A1 Aa ca L) (hL : L.length ≤ k ∧ ∀ x ∈ L, x.l.length ≤ 60000000)
    (d2 d3 d4 d10 d11 d12 d13 d14 d15 d16 d17 d18 d19 d20 d21 d22 d23 d24 d25 d26 d27 d28 d29 d30 d31 d32 d33 d34 d35 d36 d37 d38 d39 d40 d41 d42 d43 d44 d45 d46 d47 d48 d49 d50 d51 d52 d53 d54 d55 d56 d57 d58 d59 d60 d61 d62 d63 d64 d65 d66 d67 d68 d69 d70 d71 d72 d73 d74 d75 d76 d77 d78 d79 d80 d81 d82 d83 d84 d85 d86 d87 d88 d89 d90 d91 d92 d93 d94 d95 d96 d97 d98 d99 d100 d101 d102 d103 d104 d105 d106 d107 d108 d109 d110 d111 d112 d113 d114 d115 d116 d117 d118 d119 d120 : Value) (Q : Exit → Act → World → Prop)
    (hexit : ∀ (u6 u7 u8 u12 u67 u68 u69 u70 u71 u72 u73 u74 u75 u76 u77 u78 u79 u80 u81 u82 u83 u84 u85 u86 u87 u88 u89 u90 u91 u92 u93 : Value) (w' : World), Handed W F (k + 1) u6 u7 u8 w' → Q .normal ⟨List.toArray ((.slice A n c) :: (.slice A2 m c2) :: d2 :: d3 :: d4 :: (.pointer (some ⟨W.heap.size, 0, none⟩)) :: u6 :: u7 :: u8 :: (.int .i64 (k : Int)) :: d10 :: d11 :: u12 :: d13 :: d14 :: d15 :: d16 :: d17 :: d18 :: d19 :: d20 :: d21 :: d22 :: d23 :: d24 :: d25 :: d26 :: d27 :: d28 :: d29 :: d30 :: d31 :: d32 :: d33 :: d34 :: d35 :: d36 :: d37 :: d38 :: d39 :: d40 :: d41 :: d42 :: d43 :: d44 :: d45 :: d46 :: d47 :: d48 :: d49 :: d50 :: d51 :: d52 :: d53 :: d54 :: d55 :: d56 :: d57 :: d58 :: d59 :: d60 :: d61 :: d62 :: d63 :: d64 :: d65 :: d66 :: u67 :: u68 :: u69 :: u70 :: u71 :: u72 :: u73 :: u74 :: u75 :: u76 :: u77 :: u78 :: u79 :: u80 :: u81 :: u82 :: u83 :: u84 :: u85 :: u86 :: u87 :: u88 :: u89 :: u90 :: u91 :: u92 :: u93 :: d94 :: d95 :: d96 :: d97 :: d98 :: d99 :: d100 :: d101 :: d102 :: d103 :: d104 :: d105 :: d106 :: d107 :: d108 :: d109 :: d110 :: d111 :: d112 :: d113 :: d114 :: d115 :: d116 :: d117 :: d118 :: d119 :: d120 :: []), []⟩ w') :
    Code.wp Try.prog tailC Q ⟨List.toArray ((.slice A n c) :: (.slice A2 m c2) :: d2 :: d3 :: d4 :: (.pointer (some ⟨W.heap.size, 0, none⟩)) :: (.slice Aa (allB F k).length ca) :: (vk) :: (vw) :: (.int .i64 (k : Int)) :: d10 :: d11 :: d12 :: d13 :: d14 :: d15 :: d16 :: d17 :: d18 :: d19 :: d20 :: d21 :: d22 :: d23 :: d24 :: d25 :: d26 :: d27 :: d28 :: d29 :: d30 :: d31 :: d32 :: d33 :: d34 :: d35 :: d36 :: d37 :: d38 :: d39 :: d40 :: d41 :: d42 :: d43 :: d44 :: d45 :: d46 :: d47 :: d48 :: d49 :: d50 :: d51 :: d52 :: d53 :: d54 :: d55 :: d56 :: d57 :: d58 :: d59 :: d60 :: d61 :: d62 :: d63 :: d64 :: d65 :: d66 :: d67 :: d68 :: d69 :: d70 :: d71 :: d72 :: d73 :: d74 :: d75 :: d76 :: d77 :: d78 :: d79 :: d80 :: d81 :: d82 :: d83 :: d84 :: d85 :: d86 :: d87 :: d88 :: d89 :: d90 :: d91 :: d92 :: d93 :: d94 :: d95 :: d96 :: d97 :: d98 :: d99 :: d100 :: d101 :: d102 :: d103 :: d104 :: d105 :: d106 :: d107 :: d108 :: d109 :: d110 :: d111 :: d112 :: d113 :: d114 :: d115 :: d116 :: d117 :: d118 :: d119 :: d120 :: []), []⟩ wr := by
  have HALL := Lib.hid hall
  have HLK := Lib.hid hL
  have HLE := Lib.hid hexit
  clear hexit
  obtain ⟨b2, o2, rfl, hcells⟩ := hE (by omega)
  have hel := hcells k hlt
  obtain ⟨⟨A3, c3, hEk, hrd⟩, hok, hsz⟩ := hF k hlt
  have hrgW := add_range (n := n) hel
  rw [hEk] at hrgW
  have hb2 : b2 < W.heap.size := by
    have := hrgW 0 _ rfl
    exact OP.cell_lt this
  have HRG8 := Lib.hid (range_mod hrgW HP8.old (fun c => c))
  have HIN := Lib.hid (add_info (addL_len (F k).kind (F k).N (F k).S A3 (F k).B.length c3 (F k).K hok.2))
  have HRD := Lib.hid hrd
  have HOK := Lib.hid (And.intro hok (And.intro hsz hb2))
  have HSZ := Lib.hid (show (allB F k).length + (addA (F k).kind (F k).N (F k).S (F k).B (F k).K).length ≤ 140737488000000 by
    have h2 := allB_le F (show k + 1 ≤ n by omega)
    rw [allB_succ, List.length_append] at h2
    have h3 : (F k).bytes.length = (addA (F k).kind (F k).N (F k).S (F k).B (F k).K).length := rfl
    omega)
  have hkn' : (k : Int) < (n : Int) := by omega
  obtain ⟨b3, o3, rfl, hc3⟩ := hE2 (by omega)
  obtain ⟨_, hc3⟩ := hc3 k hkm
  rw [hbb] at hc3
  have a0 := hc3 0 (by omega)
  simp at a0
  have ha3 := OP.cell_lt a0
  have HA0 := Lib.hid (And.intro a0 ha3)
  have hkm' : (k : Int) < (m : Int) := by omega
  have HKN := Lib.hid (And.intro hlt (And.intro hn hm))
  have H8 := Lib.hid HP8
  clear hc3 hbb a0 ha3 hkm hlt hn hm hcells hel hrgW hrd hok hsz hEk hb2 hF hall hT HP8 hL
  conv => arg 2; whnf
  go_wp2_with (first
    | (go_at_call 11
       refine (laid_any (F k).kind (F k).N (F k).S A3 (F k).B.length c3 (F k).K (F k).B HOK.out.1.1 HOK.out.1.2 rfl (by have := HOK.out.2.1; omega) (by have := HOK.out.2.1; omega) (OP.rds_mod HRD.out H8.out.old)).mono ?_
       rintro e w9 ⟨A9, c9, rfl, hown9, M9⟩
       have HP9 := Lib.hid (H8.out.mod_no M9)
       have HO9 := Lib.hid hown9
       clear hown9 M9)
    | (at_builtin
       refine wpList_enc rfl (.tmp 67) (.tmp 72) rfl w9 Aa ca _ (allB F k) rfl rfl HP9.out.row A9 _ c9 (addA (F k).kind (F k).N (F k).S (F k).B (F k).K) rfl rfl (RdT.of_own HO9.out).rds HSZ.out ?_
       intro A10 c10 w10 nA10 R10 M10
       have HR10 := Lib.hid R10
       have HN := Lib.hid (show ∀ va, va = Value.slice A10 (allB F (k + 1)).length c10 → _ from fun va hva => HP9.out.next nA10 (by rw [allB_succ]; exact R10) M10 hva)
       have HO10 := Lib.hid (HN.out _ rfl).old
       have a10 := (HO10.out.cell (p := ⟨b3, o3 + k, none⟩) HA0.out.2 (fun c => c)).trans HA0.out.1
       clear nA10 R10 M10)
    | (refine wpList_load_mid rfl 32 (.tmp 70) rfl b2 (o2 + k * 36) rfl (addL (F k).kind (F k).N (F k).S A3 (F k).B.length c3 (F k).K) _ HRG8.out Try.underlying32 rfl HIN.out ?_)
)
  refine HLE.out _ _ _ _ _ _ _ _ _ _ _ _ _ _ _ _ _ _ _ _ _ _ _ _ _ _ _ _ _ _ _ _ ?_
  exact ⟨A1, A10, c10, L, by have := HLK.out.1; omega, HLK.out.2, HN.out _ (by rw [allB_succ, List.length_append]; rfl)⟩

set_option maxRecDepth 100000 in
set_option maxHeartbeats 4000000 in
theorem tail_true {W : World} {A : Option Addr} {n c : Nat} {E : Nat → List Value} {F : Nat → AddI} (hE : Elems W A n 36 E) (hn : n ≤ 1048576)
    (hF : ∀ i, i < n → AddAt W (E i) (F i) ∧ (F i).ok ∧ (F i).S.length + (F i).B.length ≤ 1048576) (hall : (allB F n).length ≤ 60000000)
    {A2 : Option Addr} {m c2 : Nat} {E2 : Nat → List Value} (hE2 : Elems W A2 m 1 E2) (hm : m ≤ 1048576) (hT : ∀ i, i < m → ∃ b : Bool, E2 i = [.bool b])
    {k : Nat} (hlt : k < n) (hkm : k < m) (hbb : E2 k = [.bool true]) {vk vw : Value} {wr : World} {A1 Aa : Option Addr} {ca : Nat} {L : List KR}
    (HP8 : AddsP W F W.heap.size k vk vw wr A1 Aa ca L) (hL : L.length ≤ k ∧ ∀ x ∈ L, x.l.length ≤ 60000000)
    (d2 d3 d4 d10 d11 d12 d13 d14 d15 d16 d17 d18 d19 d20 d21 d22 d23 d24 d25 d26 d27 d28 d29 d30 d31 d32 d33 d34 d35 d36 d37 d38 d39 d40 d41 d42 d43 d44 d45 d46 d47 d48 d49 d50 d51 d52 d53 d54 d55 d56 d57 d58 d59 d60 d61 d62 d63 d64 d65 d66 d67 d68 d69 d70 d71 d72 d73 d74 d75 d76 d77 d78 d79 d80 d81 d82 d83 d84 d85 d86 d87 d88 d89 d90 d91 d92 d93 d94 d95 d96 d97 d98 d99 d100 d101 d102 d103 d104 d105 d106 d107 d108 d109 d110 d111 d112 d113 d114 d115 d116 d117 d118 d119 d120 : Value) (Q : Exit → Act → World → Prop)
    (hexit : ∀ (u6 u7 u8 u12 u67 u68 u69 u70 u71 u72 u73 u74 u75 u76 u77 u78 u79 u80 u81 u82 u83 u84 u85 u86 u87 u88 u89 u90 u91 u92 u93 : Value) (w' : World), Handed W F (k + 1) u6 u7 u8 w' → Q .normal ⟨List.toArray ((.slice A n c) :: (.slice A2 m c2) :: d2 :: d3 :: d4 :: (.pointer (some ⟨W.heap.size, 0, none⟩)) :: u6 :: u7 :: u8 :: (.int .i64 (k : Int)) :: d10 :: d11 :: u12 :: d13 :: d14 :: d15 :: d16 :: d17 :: d18 :: d19 :: d20 :: d21 :: d22 :: d23 :: d24 :: d25 :: d26 :: d27 :: d28 :: d29 :: d30 :: d31 :: d32 :: d33 :: d34 :: d35 :: d36 :: d37 :: d38 :: d39 :: d40 :: d41 :: d42 :: d43 :: d44 :: d45 :: d46 :: d47 :: d48 :: d49 :: d50 :: d51 :: d52 :: d53 :: d54 :: d55 :: d56 :: d57 :: d58 :: d59 :: d60 :: d61 :: d62 :: d63 :: d64 :: d65 :: d66 :: u67 :: u68 :: u69 :: u70 :: u71 :: u72 :: u73 :: u74 :: u75 :: u76 :: u77 :: u78 :: u79 :: u80 :: u81 :: u82 :: u83 :: u84 :: u85 :: u86 :: u87 :: u88 :: u89 :: u90 :: u91 :: u92 :: u93 :: d94 :: d95 :: d96 :: d97 :: d98 :: d99 :: d100 :: d101 :: d102 :: d103 :: d104 :: d105 :: d106 :: d107 :: d108 :: d109 :: d110 :: d111 :: d112 :: d113 :: d114 :: d115 :: d116 :: d117 :: d118 :: d119 :: d120 :: []), []⟩ w') :
    Code.wp Try.prog tailC Q ⟨List.toArray ((.slice A n c) :: (.slice A2 m c2) :: d2 :: d3 :: d4 :: (.pointer (some ⟨W.heap.size, 0, none⟩)) :: (.slice Aa (allB F k).length ca) :: (vk) :: (vw) :: (.int .i64 (k : Int)) :: d10 :: d11 :: d12 :: d13 :: d14 :: d15 :: d16 :: d17 :: d18 :: d19 :: d20 :: d21 :: d22 :: d23 :: d24 :: d25 :: d26 :: d27 :: d28 :: d29 :: d30 :: d31 :: d32 :: d33 :: d34 :: d35 :: d36 :: d37 :: d38 :: d39 :: d40 :: d41 :: d42 :: d43 :: d44 :: d45 :: d46 :: d47 :: d48 :: d49 :: d50 :: d51 :: d52 :: d53 :: d54 :: d55 :: d56 :: d57 :: d58 :: d59 :: d60 :: d61 :: d62 :: d63 :: d64 :: d65 :: d66 :: d67 :: d68 :: d69 :: d70 :: d71 :: d72 :: d73 :: d74 :: d75 :: d76 :: d77 :: d78 :: d79 :: d80 :: d81 :: d82 :: d83 :: d84 :: d85 :: d86 :: d87 :: d88 :: d89 :: d90 :: d91 :: d92 :: d93 :: d94 :: d95 :: d96 :: d97 :: d98 :: d99 :: d100 :: d101 :: d102 :: d103 :: d104 :: d105 :: d106 :: d107 :: d108 :: d109 :: d110 :: d111 :: d112 :: d113 :: d114 :: d115 :: d116 :: d117 :: d118 :: d119 :: d120 :: []), []⟩ wr := by
  have HALL := Lib.hid hall
  have HLK := Lib.hid hL
  have HLE := Lib.hid hexit
  clear hexit
  obtain ⟨b2, o2, rfl, hcells⟩ := hE (by omega)
  have hel := hcells k hlt
  obtain ⟨⟨A3, c3, hEk, hrd⟩, hok, hsz⟩ := hF k hlt
  have hrgW := add_range (n := n) hel
  rw [hEk] at hrgW
  have hb2 : b2 < W.heap.size := by
    have := hrgW 0 _ rfl
    exact OP.cell_lt this
  have HRG8 := Lib.hid (range_mod hrgW HP8.old (fun c => c))
  have HIN := Lib.hid (add_info (addL_len (F k).kind (F k).N (F k).S A3 (F k).B.length c3 (F k).K hok.2))
  have HRD := Lib.hid hrd
  have HOK := Lib.hid (And.intro hok (And.intro hsz hb2))
  have HSZ := Lib.hid (show (allB F k).length + (addA (F k).kind (F k).N (F k).S (F k).B (F k).K).length ≤ 140737488000000 by
    have h2 := allB_le F (show k + 1 ≤ n by omega)
    rw [allB_succ, List.length_append] at h2
    have h3 : (F k).bytes.length = (addA (F k).kind (F k).N (F k).S (F k).B (F k).K).length := rfl
    omega)
  have hkn' : (k : Int) < (n : Int) := by omega
  obtain ⟨Ak, ck, rfl⟩ : ∃ Ak ck, vk = .slice Ak L.length ck := by
    rcases HP8.kept.2 with ⟨hv, h0⟩ | ⟨g', cap, cur, hv, _⟩
    · exact ⟨_, _, by rw [hv, h0]⟩
    · exact ⟨_, _, hv⟩
  obtain ⟨Aw, cw, rfl⟩ : ∃ Aw cw, vw = .slice Aw L.length cw := by
    rcases HP8.want.2 with ⟨hv, h0⟩ | ⟨g', cap, cur, hv, _⟩
    · exact ⟨_, _, by rw [hv, h0]⟩
    · exact ⟨_, _, hv⟩
  obtain ⟨i0, hi0, he0⟩ := Option.map_eq_some_iff.1 sl_info
  obtain ⟨z01, z02⟩ := Prod.mk.inj he0
  obtain ⟨z02, z03⟩ := Prod.mk.inj z02
  obtain ⟨i1, hi1, he1⟩ := Option.map_eq_some_iff.1 st_info
  obtain ⟨z11, z12⟩ := Prod.mk.inj he1
  obtain ⟨z12, z13⟩ := Prod.mk.inj z12
  have HI0 := Lib.hid (And.intro hi0 (And.intro z01 (And.intro z02 z03)))
  have HI1 := Lib.hid (And.intro hi1 (And.intro z11 (And.intro z12 z13)))
  have HBL := Lib.hid (show (allB F (k + 1)).length ≤ 60000000 by have := allB_le F (show k + 1 ≤ n by omega); omega)
  have HSW := Lib.hid (show W.heap.size ≤ wr.heap.size from HP8.old.size)
  have hL20 : L.length ≤ 1048576 := by omega
  have HL20 := Lib.hid hL20
  clear hi0 he0 z01 z02 z03 hi1 he1 z11 z12 z13 hL20
  obtain ⟨b3, o3, rfl, hc3⟩ := hE2 (by omega)
  obtain ⟨_, hc3⟩ := hc3 k hkm
  rw [hbb] at hc3
  have a0 := hc3 0 (by omega)
  simp at a0
  have ha3 := OP.cell_lt a0
  have HA0 := Lib.hid (And.intro a0 ha3)
  have hkm' : (k : Int) < (m : Int) := by omega
  have HKN := Lib.hid (And.intro hlt (And.intro hn hm))
  have H8 := Lib.hid HP8
  clear hc3 hbb a0 ha3 hkm hlt hn hm hcells hel hrgW hrd hok hsz hEk hb2 hF hall hT HP8 hL
  conv => arg 2; whnf
  go_wp2_with (first
    | (go_at_call 11
       refine (laid_any (F k).kind (F k).N (F k).S A3 (F k).B.length c3 (F k).K (F k).B HOK.out.1.1 HOK.out.1.2 rfl (by have := HOK.out.2.1; omega) (by have := HOK.out.2.1; omega) (OP.rds_mod HRD.out H8.out.old)).mono ?_
       rintro e w9 ⟨A9, c9, rfl, hown9, M9⟩
       have HP9 := Lib.hid (H8.out.mod_no M9)
       have HO9 := Lib.hid hown9
       clear hown9 M9)
    | (go_at_call 12
       refine (bytes_any (HN.out _ rfl).enc.r (by have := HBL.out; omega)).mono ?_
       rintro e w11 ⟨A11, c11, rfl, hown11, M11⟩
       have HO11 := Lib.hid hown11
       have HM11 := Lib.hid M11
       have HS11 := Lib.hid (show W.heap.size ≤ w11.heap.size by have := HO10.out.size; have := M11.size; omega)
       clear hown11 M11)
    | (at_builtin
       refine wpList_enc rfl (.tmp 67) (.tmp 72) rfl w9 Aa ca _ (allB F k) rfl rfl HP9.out.row A9 _ c9 (addA (F k).kind (F k).N (F k).S (F k).B (F k).K) rfl rfl (RdT.of_own HO9.out).rds HSZ.out ?_
       intro A10 c10 w10 nA10 R10 M10
       have HR10 := Lib.hid R10
       have HN := Lib.hid (show ∀ va, va = Value.slice A10 (allB F (k + 1)).length c10 → _ from fun va hva => HP9.out.next nA10 (by rw [allB_succ]; exact R10) M10 hva)
       have HO10 := Lib.hid (HN.out _ rfl).old
       have a10 := (HO10.out.cell (p := ⟨b3, o3 + k, none⟩) HA0.out.2 (fun c => c)).trans HA0.out.1
       clear nA10 R10 M10)
    | (at_builtin
       refine wpList_put1 rfl (.tmp 85) (.tmp 87) 37 rfl W.heap.size 23 i0 (.slice none 0 0) 24 Try.underlying37 HI0.out.1 HI0.out.2.1 HI0.out.2.2.1 HI0.out.2.2.2 rfl w11 Ak ck L.length _ (.slice A11 (allB F (k + 1)).length c11) rfl rfl (own_keep (HN.out _ rfl).kept HM11.out (fun _ _ _ c => c)) rfl (by have := HL20.out; simp only [maxLen]; omega) (by have := HL20.out; omega) HS11.out ?_
       rintro A12 c12 w12 hown12 M12
       have HO12 := Lib.hid hown12
       have HM12 := Lib.hid M12
       have HS12 := Lib.hid (show W.heap.size ≤ w12.heap.size by have := HS11.out; have := M12.size; omega)
       have hr12 : RowA w12 A10 c10 (allB F (k + 1)) := by
         have h11 := HR10.out.mod HM11.out (fun _ _ c => c)
         refine RowA.mod (by rw [allB_succ]; exact h11) M12 (fun b hb c => ?_)
         obtain ⟨b', cur, e, hcb⟩ := h11.at_blk hb
         injection e with e; subst e
         obtain ⟨_, cs', hb'⟩ := c
         exact absurd (hcb.same hb').1 (by decide)
       have hcv12 := conv_string hr12.rdt ((allB F k).length + (addA (F k).kind (F k).N (F k).S (F k).B (F k).K).length) c10 (by rw [allB_succ, List.length_append]; rfl)
       have HR12 := Lib.hid hr12
       clear hown12 M12 hr12)
    | (at_builtin
       refine wpList_put1 rfl (.tmp 89) (.tmp 92) 38 rfl W.heap.size 9 i1 (.string ⟨#[]⟩) 16 Try.underlying38 HI1.out.1 HI1.out.2.1 HI1.out.2.2.1 HI1.out.2.2.2 rfl w12 Aw cw L.length _ (.string ⟨(allB F (k + 1)).toArray⟩) rfl rfl (own_keep (own_keep (HN.out _ rfl).want HM11.out (fun _ _ _ c => c)) HM12.out (fun b cs hb c => by obtain ⟨_, cs', hb'⟩ := c; exact absurd (hb.same hb').1 (by decide))) rfl (by have := HL20.out; simp only [maxLen]; omega) (by have := HL20.out; omega) HS12.out ?_
       rintro A13 c13 w13 hown13 M13
       have HO13 := Lib.hid hown13
       have HM13 := Lib.hid M13
       clear hown13 M13)
    | (refine wpList_load_mid rfl 32 (.tmp 70) rfl b2 (o2 + k * 36) rfl (addL (F k).kind (F k).N (F k).S A3 (F k).B.length c3 (F k).K) _ HRG8.out Try.underlying32 rfl HIN.out ?_)
)
  refine HLE.out _ _ _ _ _ _ _ _ _ _ _ _ _ _ _ _ _ _ _ _ _ _ _ _ _ _ _ _ _ _ _ _ ?_
  obtain ⟨hr11, hge11⟩ := RowA.of HO11.out
  exact ⟨A1, A10, c10, L ++ [⟨A11, c11, allB F (k + 1)⟩], by have := HLK.out.1; rw [List.length_append]; simp; omega,
    fun x hx => by
      rcases List.mem_append.1 hx with hx | hx
      · exact HLK.out.2 x hx
      · rw [List.mem_singleton.1 hx]; exact HBL.out,
    (HN.out _ (by rw [allB_succ, List.length_append]; rfl)).push HM11.out hr11 hge11 HO12.out HM12.out HO13.out HM13.out⟩

set_option maxRecDepth 100000 in
set_option maxHeartbeats 4000000 in
theorem tail_any {W : World} {A : Option Addr} {n c : Nat} {E : Nat → List Value} {F : Nat → AddI} (hE : Elems W A n 36 E) (hn : n ≤ 1048576)
    (hF : ∀ i, i < n → AddAt W (E i) (F i) ∧ (F i).ok ∧ (F i).S.length + (F i).B.length ≤ 1048576) (hall : (allB F n).length ≤ 60000000)
    {A2 : Option Addr} {m c2 : Nat} {E2 : Nat → List Value} (hE2 : Elems W A2 m 1 E2) (hm : m ≤ 1048576) (hT : ∀ i, i < m → ∃ b : Bool, E2 i = [.bool b])
    {k : Nat} (hlt : k < n)  {vk vw : Value} {wr : World} {A1 Aa : Option Addr} {ca : Nat} {L : List KR}
    (HP8 : AddsP W F W.heap.size k vk vw wr A1 Aa ca L) (hL : L.length ≤ k ∧ ∀ x ∈ L, x.l.length ≤ 60000000)
    (d2 d3 d4 d10 d11 d12 d13 d14 d15 d16 d17 d18 d19 d20 d21 d22 d23 d24 d25 d26 d27 d28 d29 d30 d31 d32 d33 d34 d35 d36 d37 d38 d39 d40 d41 d42 d43 d44 d45 d46 d47 d48 d49 d50 d51 d52 d53 d54 d55 d56 d57 d58 d59 d60 d61 d62 d63 d64 d65 d66 d67 d68 d69 d70 d71 d72 d73 d74 d75 d76 d77 d78 d79 d80 d81 d82 d83 d84 d85 d86 d87 d88 d89 d90 d91 d92 d93 d94 d95 d96 d97 d98 d99 d100 d101 d102 d103 d104 d105 d106 d107 d108 d109 d110 d111 d112 d113 d114 d115 d116 d117 d118 d119 d120 : Value) (Q : Exit → Act → World → Prop)
    (hexit : ∀ (u6 u7 u8 u12 u67 u68 u69 u70 u71 u72 u73 u74 u75 u76 u77 u78 u79 u80 u81 u82 u83 u84 u85 u86 u87 u88 u89 u90 u91 u92 u93 : Value) (w' : World), Handed W F (k + 1) u6 u7 u8 w' → Q .normal ⟨List.toArray ((.slice A n c) :: (.slice A2 m c2) :: d2 :: d3 :: d4 :: (.pointer (some ⟨W.heap.size, 0, none⟩)) :: u6 :: u7 :: u8 :: (.int .i64 (k : Int)) :: d10 :: d11 :: u12 :: d13 :: d14 :: d15 :: d16 :: d17 :: d18 :: d19 :: d20 :: d21 :: d22 :: d23 :: d24 :: d25 :: d26 :: d27 :: d28 :: d29 :: d30 :: d31 :: d32 :: d33 :: d34 :: d35 :: d36 :: d37 :: d38 :: d39 :: d40 :: d41 :: d42 :: d43 :: d44 :: d45 :: d46 :: d47 :: d48 :: d49 :: d50 :: d51 :: d52 :: d53 :: d54 :: d55 :: d56 :: d57 :: d58 :: d59 :: d60 :: d61 :: d62 :: d63 :: d64 :: d65 :: d66 :: u67 :: u68 :: u69 :: u70 :: u71 :: u72 :: u73 :: u74 :: u75 :: u76 :: u77 :: u78 :: u79 :: u80 :: u81 :: u82 :: u83 :: u84 :: u85 :: u86 :: u87 :: u88 :: u89 :: u90 :: u91 :: u92 :: u93 :: d94 :: d95 :: d96 :: d97 :: d98 :: d99 :: d100 :: d101 :: d102 :: d103 :: d104 :: d105 :: d106 :: d107 :: d108 :: d109 :: d110 :: d111 :: d112 :: d113 :: d114 :: d115 :: d116 :: d117 :: d118 :: d119 :: d120 :: []), []⟩ w') :
    Code.wp Try.prog tailC Q ⟨List.toArray ((.slice A n c) :: (.slice A2 m c2) :: d2 :: d3 :: d4 :: (.pointer (some ⟨W.heap.size, 0, none⟩)) :: (.slice Aa (allB F k).length ca) :: (vk) :: (vw) :: (.int .i64 (k : Int)) :: d10 :: d11 :: d12 :: d13 :: d14 :: d15 :: d16 :: d17 :: d18 :: d19 :: d20 :: d21 :: d22 :: d23 :: d24 :: d25 :: d26 :: d27 :: d28 :: d29 :: d30 :: d31 :: d32 :: d33 :: d34 :: d35 :: d36 :: d37 :: d38 :: d39 :: d40 :: d41 :: d42 :: d43 :: d44 :: d45 :: d46 :: d47 :: d48 :: d49 :: d50 :: d51 :: d52 :: d53 :: d54 :: d55 :: d56 :: d57 :: d58 :: d59 :: d60 :: d61 :: d62 :: d63 :: d64 :: d65 :: d66 :: d67 :: d68 :: d69 :: d70 :: d71 :: d72 :: d73 :: d74 :: d75 :: d76 :: d77 :: d78 :: d79 :: d80 :: d81 :: d82 :: d83 :: d84 :: d85 :: d86 :: d87 :: d88 :: d89 :: d90 :: d91 :: d92 :: d93 :: d94 :: d95 :: d96 :: d97 :: d98 :: d99 :: d100 :: d101 :: d102 :: d103 :: d104 :: d105 :: d106 :: d107 :: d108 :: d109 :: d110 :: d111 :: d112 :: d113 :: d114 :: d115 :: d116 :: d117 :: d118 :: d119 :: d120 :: []), []⟩ wr := by
  by_cases hkm : k < m
  · obtain ⟨bb, hbb⟩ := hT k hkm
    cases bb with
    | false => exact tail_false hE hn hF hall hE2 hm hT hlt hkm hbb HP8 hL d2 d3 d4 d10 d11 d12 d13 d14 d15 d16 d17 d18 d19 d20 d21 d22 d23 d24 d25 d26 d27 d28 d29 d30 d31 d32 d33 d34 d35 d36 d37 d38 d39 d40 d41 d42 d43 d44 d45 d46 d47 d48 d49 d50 d51 d52 d53 d54 d55 d56 d57 d58 d59 d60 d61 d62 d63 d64 d65 d66 d67 d68 d69 d70 d71 d72 d73 d74 d75 d76 d77 d78 d79 d80 d81 d82 d83 d84 d85 d86 d87 d88 d89 d90 d91 d92 d93 d94 d95 d96 d97 d98 d99 d100 d101 d102 d103 d104 d105 d106 d107 d108 d109 d110 d111 d112 d113 d114 d115 d116 d117 d118 d119 d120 Q hexit
    | true => exact tail_true hE hn hF hall hE2 hm hT hlt hkm hbb HP8 hL d2 d3 d4 d10 d11 d12 d13 d14 d15 d16 d17 d18 d19 d20 d21 d22 d23 d24 d25 d26 d27 d28 d29 d30 d31 d32 d33 d34 d35 d36 d37 d38 d39 d40 d41 d42 d43 d44 d45 d46 d47 d48 d49 d50 d51 d52 d53 d54 d55 d56 d57 d58 d59 d60 d61 d62 d63 d64 d65 d66 d67 d68 d69 d70 d71 d72 d73 d74 d75 d76 d77 d78 d79 d80 d81 d82 d83 d84 d85 d86 d87 d88 d89 d90 d91 d92 d93 d94 d95 d96 d97 d98 d99 d100 d101 d102 d103 d104 d105 d106 d107 d108 d109 d110 d111 d112 d113 d114 d115 d116 d117 d118 d119 d120 Q hexit
  · exact tail_none hE hn hF hall hE2 hm hT hlt hkm HP8 hL d2 d3 d4 d10 d11 d12 d13 d14 d15 d16 d17 d18 d19 d20 d21 d22 d23 d24 d25 d26 d27 d28 d29 d30 d31 d32 d33 d34 d35 d36 d37 d38 d39 d40 d41 d42 d43 d44 d45 d46 d47 d48 d49 d50 d51 d52 d53 d54 d55 d56 d57 d58 d59 d60 d61 d62 d63 d64 d65 d66 d67 d68 d69 d70 d71 d72 d73 d74 d75 d76 d77 d78 d79 d80 d81 d82 d83 d84 d85 d86 d87 d88 d89 d90 d91 d92 d93 d94 d95 d96 d97 d98 d99 d100 d101 d102 d103 d104 d105 d106 d107 d108 d109 d110 d111 d112 d113 d114 d115 d116 d117 d118 d119 d120 Q hexit

end Go.Proofs.Ytpfkcejndjnbhaa.AD
