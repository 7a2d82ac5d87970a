/- The law GreyOrder: the walk (printed by greyorder.py). -/
import Derived.Test.YtknbehjhaaidoaaDqN
namespace Go.Proofs.Ytknbehjhaaidoaa.DI
open Go.RowKit Mem DQ
set_option linter.unusedVariables false
set_option linter.unusedSimpArgs false

def sR : Code → Code | .seq _ b => b | c => c
def sL : Code → Code | .seq a _ => a | c => c
noncomputable def bodyC : Code := Try.f3.body.getD .skip
noncomputable def o1C : Code := sR (sR (sR bodyC))
noncomputable def o4C : Code := sR o1C
noncomputable def o5C : Code := sR o4C
noncomputable def o6C : Code := sR o5C
noncomputable def o2C : Code := sR o6C
noncomputable def o3C : Code := sR o2C

/-- The row behind the pushes. -/
def full (l : List Int) (b : Bool) : List Int := if b then l.reverse else l
theorem full_len (l : List Int) (b : Bool) : (full l b).length = l.length := by unfold full; split <;> simp
/-- What the k pushes have made. -/
def part (l : List Int) (b : Bool) (k : Nat) : List Int := if b then (l.take k).reverse else l.take k
theorem cell_int {W w : World} {ad : Addr} {l : List Int} {q : Nat} {x : Int} (hc : ∀ j u, (l.map iv)[j]? = some u → W.cell? (ad.add j) = some u) (hx : l[q]? = some x) (hm : Mod no W w) : w.cell? (ad.add q) = some (.int .i64 x) := by
  have h := hc q (.int .i64 x) (by rw [List.getElem?_map, hx]; rfl)
  exact (hm.cell (cell_lt h) (fun c => c)).trans h

def O3I (W : World) (g : Nat) (L : List Int) (n m : Nat) (i : Value) (x y : Value) (wr : World) : Prop :=
  ∃ j : Nat, j ≤ m ∧ i = .int .i64 ((n : Int) + (j : Int)) ∧ DS W wr g (L.drop j)
def O2I (W : World) (g : Nat) (L : List Int) (n : Nat) (i : Value) (x y z : Value) (wr : World) : Prop :=
  ∃ k : Nat, k ≤ n ∧ i = .int .i64 (k : Int) ∧ DS W wr g (L.take (L.length - k))
def O1I (W : World) (g : Nat) (l : List Int) (b : Bool) (i : Value) (wr : World) : Prop :=
  ∃ k : Nat, k ≤ l.length ∧ i = .int .i64 (k : Int) ∧ DS W wr g (part l b k)

set_option maxRecDepth 100000 in
set_option maxHeartbeats 4000000 in
theorem o3_any {W : World} {A : Option Addr} {c g n : Nat} {l : List Int} {turn : Int} {b : Bool} {w0 : World} (hworks : ∀ w, Calls Try.prog 14 #[] w fun e w' => e = .returned (.bool true) ∧ Mod no w w') (hr : Rds W 1 A l.length (l.map iv)) (hl : l.length ≤ 1048576) (hn : n ≤ l.length)
    (h : DS W w0 g ((full l b).take (l.length - n)))
    (d3 d4 d5 d6 d8 d10 d11 d12 d13 d14 d15 d16 d17 d18 d19 d20 d21 d22 d23 d24 d25 d26 d27 d28 d29 d30 d31 d32 d33 d34 d35 d36 d37 d38 d39 d40 d41 d42 d43 d44 d45 d46 d47 d48 d49 d50 d51 d52 d53 d54 d55 d56 d57 d58 d59 d60 d61 d62 d63 d64 d65 d66 d67 d68 d69 d70 d71 d72 d73 d74 d75 d76 d77 d78 d79 d80 d81 d82 d83 d84 d85 d86 d87 d88 d89 d90 d91 d92 d93 d94 d95 d96 d97 d98 d99 d100 d101 d102 d103 d104 d105 d106 d107 d108 d109 d110 d111 d112 d113 d114 d115 d116 d117 d118 d119 d120 d121 d122 d123 d124 d125 d126 d127 d128 d129 d130 d131 d132 d133 d134 d135 d136 d137 d138 d139 d140 : Value) (Q : Exit → Act → World → Prop)
    (hexit : ∀ (u6 u14 u15 u16 u17 u18 u88 u89 u90 u91 u92 u93 u94 u95 u96 u97 u98 u99 u100 u101 u102 u103 u104 u105 u106 u107 u108 u109 u110 u111 u112 u113 u114 u115 u116 u117 u118 u119 u120 u121 u122 u123 u124 u125 u126 u127 u128 u129 u130 u131 u132 u133 u134 u135 u136 u137 u138 u139 u140 : Value) (w' : World), u6 = .bool true → Mod no W w' → Q .ret ⟨List.toArray ((.slice A l.length c) :: (.int .i64 turn) :: (.bool b) :: d3 :: d4 :: d5 :: u6 :: (.pointer (some ⟨g, 0, none⟩)) :: d8 :: (.int .i64 (n : Int)) :: d10 :: d11 :: d12 :: d13 :: u14 :: u15 :: u16 :: u17 :: u18 :: d19 :: d20 :: d21 :: d22 :: d23 :: d24 :: d25 :: d26 :: d27 :: d28 :: d29 :: d30 :: d31 :: d32 :: d33 :: d34 :: d35 :: d36 :: d37 :: d38 :: d39 :: d40 :: d41 :: d42 :: d43 :: d44 :: d45 :: d46 :: d47 :: d48 :: d49 :: d50 :: d51 :: d52 :: d53 :: d54 :: d55 :: d56 :: d57 :: d58 :: d59 :: d60 :: d61 :: d62 :: d63 :: d64 :: d65 :: d66 :: d67 :: d68 :: d69 :: d70 :: d71 :: d72 :: d73 :: d74 :: d75 :: d76 :: d77 :: d78 :: d79 :: d80 :: d81 :: d82 :: d83 :: d84 :: d85 :: d86 :: d87 :: u88 :: u89 :: u90 :: u91 :: u92 :: u93 :: u94 :: u95 :: u96 :: u97 :: u98 :: u99 :: u100 :: u101 :: u102 :: u103 :: u104 :: u105 :: u106 :: u107 :: u108 :: u109 :: u110 :: u111 :: u112 :: u113 :: u114 :: u115 :: u116 :: u117 :: u118 :: u119 :: u120 :: u121 :: u122 :: u123 :: u124 :: u125 :: u126 :: u127 :: u128 :: u129 :: u130 :: u131 :: u132 :: u133 :: u134 :: u135 :: u136 :: u137 :: u138 :: u139 :: u140 :: []), []⟩ w') :
    Code.wp Try.prog o3C Q ⟨List.toArray ((.slice A l.length c) :: (.int .i64 turn) :: (.bool b) :: d3 :: d4 :: d5 :: d6 :: (.pointer (some ⟨g, 0, none⟩)) :: d8 :: (.int .i64 (n : Int)) :: d10 :: d11 :: d12 :: d13 :: d14 :: d15 :: d16 :: d17 :: d18 :: d19 :: d20 :: d21 :: d22 :: d23 :: d24 :: d25 :: d26 :: d27 :: d28 :: d29 :: d30 :: d31 :: d32 :: d33 :: d34 :: d35 :: d36 :: d37 :: d38 :: d39 :: d40 :: d41 :: d42 :: d43 :: d44 :: d45 :: d46 :: d47 :: d48 :: d49 :: d50 :: d51 :: d52 :: d53 :: d54 :: d55 :: d56 :: d57 :: d58 :: d59 :: d60 :: d61 :: d62 :: d63 :: d64 :: d65 :: d66 :: d67 :: d68 :: d69 :: d70 :: d71 :: d72 :: d73 :: d74 :: d75 :: d76 :: d77 :: d78 :: d79 :: d80 :: d81 :: d82 :: d83 :: d84 :: d85 :: d86 :: d87 :: d88 :: d89 :: d90 :: d91 :: d92 :: d93 :: d94 :: d95 :: d96 :: d97 :: d98 :: d99 :: d100 :: d101 :: d102 :: d103 :: d104 :: d105 :: d106 :: d107 :: d108 :: d109 :: d110 :: d111 :: d112 :: d113 :: d114 :: d115 :: d116 :: d117 :: d118 :: d119 :: d120 :: d121 :: d122 :: d123 :: d124 :: d125 :: d126 :: d127 :: d128 :: d129 :: d130 :: d131 :: d132 :: d133 :: d134 :: d135 :: d136 :: d137 :: d138 :: d139 :: d140 :: []), []⟩ w0 := by
  have HLE := Lib.hid hexit
  have HR := Lib.hid hr
  obtain ⟨m, hm⟩ : ∃ m, n + m = l.length := ⟨l.length - n, by omega⟩
  rw [show l.length - n = m by omega] at h
  have HS := Lib.hid h
  have HM := Lib.hid (And.intro hm hl)
  have HWK := Lib.hid hworks
  clear hexit hr hl hn h hworks
  show Code.wp Try.prog (Code.seq (sL o3C) (sR o3C)) Q _ _
  refine wp_seq_k fun K1 hK1 => ?_
  have HK1 := Lib.hid hK1
  clear hK1
  conv => arg 2; whnf
  go_wp2_with fail
  go_loopw [14, 15, 16] (O3I W g ((full l b).take m) n m) (fun i _ _ _ => l.length - (intOf i).toNat)
  case atStart => exact ⟨0, Nat.zero_le _, by simp, HS.out⟩
  case round =>
    clear HS
    obtain ⟨j, hj, rfl, hS⟩ := hrel
    have hml := hm
    by_cases hjm : j < m
    · obtain ⟨ad, rfl, hc⟩ := HR.out.2 (by omega)
      have hlen : ((full l b).take m).length = m := by simp [full_len]; omega
      obtain ⟨x, hx⟩ : ∃ x, ((full l b).take m)[j]? = some x := ⟨_, List.getElem?_eq_getElem (by omega)⟩
      have hdrop : ((full l b).take m).drop j = x :: ((full l b).take m).drop (j + 1) := by
        rw [List.drop_eq_getElem_cons (by omega)]
        congr 1
        rw [List.getElem?_eq_getElem (by omega)] at hx
        injection hx
      rw [hdrop] at hS
      have hxf : (full l b)[j]? = some x := by rw [List.getElem?_take, if_pos hjm] at hx; exact hx
      have HS1 := Lib.hid hS
      have HC := Lib.hid hc
      have HJ := Lib.hid (show j + 1 ≤ m by omega)
      have hlt : (n : Int) + (j : Int) < (l.length : Int) := by omega
      have hsum : wrap64 ((n : Int) + (j : Int) + 1) = (n : Int) + (j : Int) + 1 := IntWalk.wrap64_in _ (by have := HM.out; omega)
      have hw64 := hsum
      have hj0 : (0 : Int) ≤ (j : Int) := by omega
      have hwj : wrap64 ((n : Int) + (j : Int) - (n : Int)) = (j : Int) := by rw [IntWalk.wrap64_in _ (by have := HM.out; omega)]; omega
      cases b
      · have HWANT := Lib.hid (show l[j]? = some x from hxf)
        have hjl : (j : Int) < (l.length : Int) := by omega
        clear hS hc hx hdrop hxf hj hjm hlen hml
        go_wp2_with fail
        refine (pop_bottom HS1.out).mono ?_
        rintro e w2 ⟨rfl, S2⟩
        have HS2 := Lib.hid S2
        clear S2
        have ck2 := cell_int HC.out HWANT.out HS2.out.old
        go_wp2_with fail
        go_roundw
        case rel => exact ⟨j + 1, HJ.out, by rw [hsum]; push_cast; rfl, HS2.out⟩
        case measure =>
          try rw [hw64]
          clear hw64 hsum
          have := HJ.out
          have := HM.out
          show l.length - ((n : Int) + (j : Int) + 1).toNat < l.length - ((n : Int) + (j : Int)).toNat
          omega

      · have hrev : l[l.length - 1 - j]? = some x := by
          have h1 : l.reverse[j]? = some x := hxf
          rw [List.getElem?_reverse (by omega)] at h1
          exact h1
        obtain ⟨q, hq⟩ : ∃ q, q = l.length - 1 - j := ⟨_, rfl⟩
        rw [← hq] at hrev
        have HWANT := Lib.hid hrev
        obtain ⟨m1, hm1⟩ : ∃ m1, m1 = l.length - 1 := ⟨_, rfl⟩
        have hwm : wrap64 ((l.length : Int) - 1) = (m1 : Int) := by rw [IntWalk.wrap64_in _ (by have := HM.out; omega)]; omega
        have hwq : wrap64 ((m1 : Int) - (j : Int)) = (q : Int) := by rw [IntWalk.wrap64_in _ (by have := HM.out; omega)]; omega
        have hql : (q : Int) < (l.length : Int) := by omega
        have hq0 : (0 : Int) ≤ (q : Int) := by omega
        clear hS hc hx hdrop hxf hj hjm hlen hml hrev hq hm1
        go_wp2_with fail
        refine (pop_bottom HS1.out).mono ?_
        rintro e w2 ⟨rfl, S2⟩
        have HS2 := Lib.hid S2
        clear S2
        have ck2 := cell_int HC.out HWANT.out HS2.out.old
        go_wp2_with fail
        go_roundw
        case rel => exact ⟨j + 1, HJ.out, by rw [hsum]; push_cast; rfl, HS2.out⟩
        case measure =>
          try rw [hw64]
          clear hw64 hsum
          have := HJ.out
          have := HM.out
          show l.length - ((n : Int) + (j : Int) + 1).toNat < l.length - ((n : Int) + (j : Int)).toNat
          omega

    · obtain rfl : j = m := by omega
      have hnone : ((full l b).take j).drop j = [] := by rw [List.drop_eq_nil_iff]; simp; omega
      rw [hnone] at hS
      have HS1 := Lib.hid hS
      have hlt : ¬ (n : Int) + (j : Int) < (l.length : Int) := by omega
      clear hS hnone hj hjm hml
      go_wp2_with fail
      refine HK1.out _ _ ?_
      clear HK1
      refine wp_seq_k fun K2 hK2 => ?_
      have HK2 := Lib.hid hK2
      clear hK2
      conv => arg 2; whnf
      go_wp2_with fail
      refine (pop_none HS1.out).mono ?_
      rintro e w2 ⟨rfl, rfl⟩
      go_wp2_with fail
      refine HK2.out _ _ ?_
      clear HK2
      conv => arg 2; whnf
      go_wp2_with fail
      refine (HWK.out _).mono ?_
      rintro e w3 ⟨rfl, m3⟩
      have HM3 := Lib.hid m3
      clear m3
      go_wp2_with fail
      exact HLE.out _ _ _ _ _ _ _ _ _ _ _ _ _ _ _ _ _ _ _ _ _ _ _ _ _ _ _ _ _ _ _ _ _ _ _ _ _ _ _ _ _ _ _ _ _ _ _ _ _ _ _ _ _ _ _ _ _ _ _ _ rfl (HS1.out.old.and_then HM3.out)

set_option maxRecDepth 100000 in
set_option maxHeartbeats 4000000 in
theorem o2_any {W : World} {A : Option Addr} {c g n : Nat} {l : List Int} {turn : Int} {b : Bool} {w0 : World} (hworks : ∀ w, Calls Try.prog 14 #[] w fun e w' => e = .returned (.bool true) ∧ Mod no w w') (hr : Rds W 1 A l.length (l.map iv)) (hl : l.length ≤ 1048576) (hn : n ≤ l.length)
    (h : DS W w0 g (full l b))
    (d3 d4 d5 d6 d8 d10 d11 d12 d13 d14 d15 d16 d17 d18 d19 d20 d21 d22 d23 d24 d25 d26 d27 d28 d29 d30 d31 d32 d33 d34 d35 d36 d37 d38 d39 d40 d41 d42 d43 d44 d45 d46 d47 d48 d49 d50 d51 d52 d53 d54 d55 d56 d57 d58 d59 d60 d61 d62 d63 d64 d65 d66 d67 d68 d69 d70 d71 d72 d73 d74 d75 d76 d77 d78 d79 d80 d81 d82 d83 d84 d85 d86 d87 d88 d89 d90 d91 d92 d93 d94 d95 d96 d97 d98 d99 d100 d101 d102 d103 d104 d105 d106 d107 d108 d109 d110 d111 d112 d113 d114 d115 d116 d117 d118 d119 d120 d121 d122 d123 d124 d125 d126 d127 d128 d129 d130 d131 d132 d133 d134 d135 d136 d137 d138 d139 d140 : Value) (Q : Exit → Act → World → Prop)
    (hexit : ∀ (u6 u10 u11 u12 u13 u14 u15 u16 u17 u18 u58 u59 u60 u61 u62 u63 u64 u65 u66 u67 u68 u69 u70 u71 u72 u73 u74 u75 u76 u77 u78 u79 u80 u81 u82 u83 u84 u85 u86 u87 u88 u89 u90 u91 u92 u93 u94 u95 u96 u97 u98 u99 u100 u101 u102 u103 u104 u105 u106 u107 u108 u109 u110 u111 u112 u113 u114 u115 u116 u117 u118 u119 u120 u121 u122 u123 u124 u125 u126 u127 u128 u129 u130 u131 u132 u133 u134 u135 u136 u137 u138 u139 u140 : Value) (w' : World), u6 = .bool true → Mod no W w' → Q .ret ⟨List.toArray ((.slice A l.length c) :: (.int .i64 turn) :: (.bool b) :: d3 :: d4 :: d5 :: u6 :: (.pointer (some ⟨g, 0, none⟩)) :: d8 :: (.int .i64 (n : Int)) :: u10 :: u11 :: u12 :: u13 :: u14 :: u15 :: u16 :: u17 :: u18 :: d19 :: d20 :: d21 :: d22 :: d23 :: d24 :: d25 :: d26 :: d27 :: d28 :: d29 :: d30 :: d31 :: d32 :: d33 :: d34 :: d35 :: d36 :: d37 :: d38 :: d39 :: d40 :: d41 :: d42 :: d43 :: d44 :: d45 :: d46 :: d47 :: d48 :: d49 :: d50 :: d51 :: d52 :: d53 :: d54 :: d55 :: d56 :: d57 :: u58 :: u59 :: u60 :: u61 :: u62 :: u63 :: u64 :: u65 :: u66 :: u67 :: u68 :: u69 :: u70 :: u71 :: u72 :: u73 :: u74 :: u75 :: u76 :: u77 :: u78 :: u79 :: u80 :: u81 :: u82 :: u83 :: u84 :: u85 :: u86 :: u87 :: u88 :: u89 :: u90 :: u91 :: u92 :: u93 :: u94 :: u95 :: u96 :: u97 :: u98 :: u99 :: u100 :: u101 :: u102 :: u103 :: u104 :: u105 :: u106 :: u107 :: u108 :: u109 :: u110 :: u111 :: u112 :: u113 :: u114 :: u115 :: u116 :: u117 :: u118 :: u119 :: u120 :: u121 :: u122 :: u123 :: u124 :: u125 :: u126 :: u127 :: u128 :: u129 :: u130 :: u131 :: u132 :: u133 :: u134 :: u135 :: u136 :: u137 :: u138 :: u139 :: u140 :: []), []⟩ w') :
    Code.wp Try.prog o2C Q ⟨List.toArray ((.slice A l.length c) :: (.int .i64 turn) :: (.bool b) :: d3 :: d4 :: d5 :: d6 :: (.pointer (some ⟨g, 0, none⟩)) :: d8 :: (.int .i64 (n : Int)) :: d10 :: d11 :: d12 :: d13 :: d14 :: d15 :: d16 :: d17 :: d18 :: d19 :: d20 :: d21 :: d22 :: d23 :: d24 :: d25 :: d26 :: d27 :: d28 :: d29 :: d30 :: d31 :: d32 :: d33 :: d34 :: d35 :: d36 :: d37 :: d38 :: d39 :: d40 :: d41 :: d42 :: d43 :: d44 :: d45 :: d46 :: d47 :: d48 :: d49 :: d50 :: d51 :: d52 :: d53 :: d54 :: d55 :: d56 :: d57 :: d58 :: d59 :: d60 :: d61 :: d62 :: d63 :: d64 :: d65 :: d66 :: d67 :: d68 :: d69 :: d70 :: d71 :: d72 :: d73 :: d74 :: d75 :: d76 :: d77 :: d78 :: d79 :: d80 :: d81 :: d82 :: d83 :: d84 :: d85 :: d86 :: d87 :: d88 :: d89 :: d90 :: d91 :: d92 :: d93 :: d94 :: d95 :: d96 :: d97 :: d98 :: d99 :: d100 :: d101 :: d102 :: d103 :: d104 :: d105 :: d106 :: d107 :: d108 :: d109 :: d110 :: d111 :: d112 :: d113 :: d114 :: d115 :: d116 :: d117 :: d118 :: d119 :: d120 :: d121 :: d122 :: d123 :: d124 :: d125 :: d126 :: d127 :: d128 :: d129 :: d130 :: d131 :: d132 :: d133 :: d134 :: d135 :: d136 :: d137 :: d138 :: d139 :: d140 :: []), []⟩ w0 := by
  have HLE := Lib.hid hexit
  have HR := Lib.hid hr
  have HN := Lib.hid (And.intro hn hl)
  have HS := Lib.hid h
  have HWK := Lib.hid hworks
  clear hexit hr hl hn h hworks
  show Code.wp Try.prog (Code.seq (sL o2C) o3C) Q _ _
  refine wp_seq_k fun K1 hK1 => ?_
  have HK1 := Lib.hid hK1
  clear hK1
  conv => arg 2; whnf
  go_wp2_with fail
  go_loopw [10, 11, 12, 13] (O2I W g (full l b) n) (fun i _ _ _ _ => n - (intOf i).toNat)
  case atStart => exact ⟨0, Nat.zero_le _, rfl, by rw [Nat.sub_zero, List.take_length]; exact HS.out⟩
  case round =>
    clear HS
    obtain ⟨k, hk, rfl, hS⟩ := hrel
    by_cases hkn : k < n
    · have hnl := HN.out.1
      have hll := HN.out.2
      obtain ⟨ad, rfl, hc⟩ := HR.out.2 (by omega)
      obtain ⟨q, hq⟩ : ∃ q, q = l.length - 1 - k := ⟨_, rfl⟩
      have hfl := full_len l b
      obtain ⟨x, hx⟩ : ∃ x, (full l b)[q]? = some x := ⟨_, List.getElem?_eq_getElem (by omega)⟩
      have htake : (full l b).take ((full l b).length - k) = (full l b).take q ++ [x] := by
        rw [show (full l b).length - k = q + 1 by omega, List.take_add_one, hx]; rfl
      rw [htake] at hS
      have HS1 := Lib.hid hS
      have HC := Lib.hid hc
      have HJ := Lib.hid (show k + 1 ≤ n by omega)
      have HM := Lib.hid (show True ∧ True ∧ (full l b).take q = (full l b).take ((full l b).length - (k + 1)) from ⟨trivial, trivial, by congr 1; omega⟩)
      obtain ⟨y, hy⟩ : ∃ y, l[q]? = some y := ⟨_, List.getElem?_eq_getElem (by omega)⟩
      have HY := Lib.hid hy
      obtain ⟨m1, hm1⟩ : ∃ m1, m1 = l.length - 1 := ⟨_, rfl⟩
      have hkk : (k : Int) < (n : Int) := by omega
      have hk0 : (0 : Int) ≤ (k : Int) := by omega
      have hkl : (k : Int) < (l.length : Int) := by omega
      have hql : (q : Int) < (l.length : Int) := by omega
      have hq0 : (0 : Int) ≤ (q : Int) := by omega
      have hw64 : wrap64 ((k : Int) + 1) = (k : Int) + 1 := IntWalk.wrap64_in _ (by omega)
      have hwm : wrap64 ((l.length : Int) - 1) = (m1 : Int) := by rw [IntWalk.wrap64_in _ (by omega)]; omega
      have hwq : wrap64 ((m1 : Int) - (k : Int)) = (q : Int) := by rw [IntWalk.wrap64_in _ (by omega)]; omega
      cases b
      · obtain rfl : x = y := by
          have h1 : l[q]? = some x := hx
          rw [hy] at h1; injection h1 with h1; exact h1.symm
        obtain ⟨z, hz⟩ : ∃ z, l[k]? = some z := ⟨_, List.getElem?_eq_getElem (by omega)⟩
        have HWANT := Lib.hid hz
        clear hS hc hx htake hk hkn hnl hll hfl hy hz hq hm1
        go_wp2_with fail
        refine (pop_top HS1.out).mono ?_
        rintro e w2 ⟨rfl, S2⟩
        have HS2 := Lib.hid S2
        clear S2
        have ckq := cell_int HC.out HY.out HS2.out.old
        have ckk := cell_int HC.out HWANT.out HS2.out.old
        go_wp2_with fail
        go_roundw
        case rel =>
          clear hwm hwq
          refine ⟨k + 1, HJ.out, by go_num, ?_⟩
          have h2 := HS2.out
          rw [HM.out.2.2] at h2
          exact h2
        case measure =>
          try rw [hw64]
          clear hw64 hwm hwq
          have := HJ.out
          show n - ((k : Int) + 1).toNat < n - ((k : Int)).toNat
          omega

      · have hrev : l[k]? = some x := by
          have h1 : l.reverse[q]? = some x := hx
          rw [List.getElem?_reverse (by omega)] at h1
          rw [show l.length - 1 - q = k by omega] at h1
          exact h1
        have HWANT := Lib.hid hrev
        clear hS hc hx htake hk hkn hnl hll hfl hy hrev hq hm1
        go_wp2_with fail
        refine (pop_top HS1.out).mono ?_
        rintro e w2 ⟨rfl, S2⟩
        have HS2 := Lib.hid S2
        clear S2
        have ckq := cell_int HC.out HY.out HS2.out.old
        have ckk := cell_int HC.out HWANT.out HS2.out.old
        go_wp2_with fail
        go_roundw
        case rel =>
          clear hwm hwq
          refine ⟨k + 1, HJ.out, by go_num, ?_⟩
          have h2 := HS2.out
          rw [HM.out.2.2] at h2
          exact h2
        case measure =>
          try rw [hw64]
          clear hw64 hwm hwq
          have := HJ.out
          show n - ((k : Int) + 1).toNat < n - ((k : Int)).toNat
          omega

    · obtain rfl : k = n := by omega
      have hkk : ¬ (k : Int) < (k : Int) := by omega
      have HS1 := Lib.hid hS
      clear hS hk hkn
      go_wp2_with fail
      refine HK1.out _ _ (o3_any HWK.out HR.out HN.out.2 HN.out.1 (by have h1 := HS1.out; rw [full_len] at h1; exact h1) _ _ _ _ _ _ _ _ _ _ _ _ _ _ _ _ _ _ _ _ _ _ _ _ _ _ _ _ _ _ _ _ _ _ _ _ _ _ _ _ _ _ _ _ _ _ _ _ _ _ _ _ _ _ _ _ _ _ _ _ _ _ _ _ _ _ _ _ _ _ _ _ _ _ _ _ _ _ _ _ _ _ _ _ _ _ _ _ _ _ _ _ _ _ _ _ _ _ _ _ _ _ _ _ _ _ _ _ _ _ _ _ _ _ _ _ _ _ _ _ _ _ _ _ _ _ _ _ _ _ _ _ _ _ _ _ _ ?_)
      intro u6 u14 u15 u16 u17 u18 u88 u89 u90 u91 u92 u93 u94 u95 u96 u97 u98 u99 u100 u101 u102 u103 u104 u105 u106 u107 u108 u109 u110 u111 u112 u113 u114 u115 u116 u117 u118 u119 u120 u121 u122 u123 u124 u125 u126 u127 u128 u129 u130 u131 u132 u133 u134 u135 u136 u137 u138 u139 u140 w' h M
      exact HLE.out _ _ _ _ _ _ _ _ _ _ _ _ _ _ _ _ _ _ _ _ _ _ _ _ _ _ _ _ _ _ _ _ _ _ _ _ _ _ _ _ _ _ _ _ _ _ _ _ _ _ _ _ _ _ _ _ _ _ _ _ _ _ _ _ _ _ _ _ _ _ _ _ _ _ _ _ _ _ _ _ _ _ _ _ _ _ _ _ _ _ _ _ _ _ h M

set_option maxRecDepth 100000 in
set_option maxHeartbeats 4000000 in
theorem o5_any {W : World} {A : Option Addr} {c g : Nat} {l : List Int} {turn : Int} {b : Bool} {w0 : World} (hworks : ∀ w, Calls Try.prog 14 #[] w fun e w' => e = .returned (.bool true) ∧ Mod no w w') (hr : Rds W 1 A l.length (l.map iv)) (hl : l.length ≤ 1048576)
    (h : DS W w0 g (full l b))
    (d3 d4 d5 d6 d8 d9 d10 d11 d12 d13 d14 d15 d16 d17 d18 d19 d20 d21 d22 d23 d24 d25 d26 d27 d28 d29 d30 d31 d32 d33 d34 d35 d36 d37 d38 d39 d40 d41 d42 d43 d44 d45 d46 d47 d48 d49 d50 d51 d52 d53 d54 d55 d56 d57 d58 d59 d60 d61 d62 d63 d64 d65 d66 d67 d68 d69 d70 d71 d72 d73 d74 d75 d76 d77 d78 d79 d80 d81 d82 d83 d84 d85 d86 d87 d88 d89 d90 d91 d92 d93 d94 d95 d96 d97 d98 d99 d100 d101 d102 d103 d104 d105 d106 d107 d108 d109 d110 d111 d112 d113 d114 d115 d116 d117 d118 d119 d120 d121 d122 d123 d124 d125 d126 d127 d128 d129 d130 d131 d132 d133 d134 d135 d136 d137 d138 d139 d140 : Value) (Q : Exit → Act → World → Prop)
    (hexit : ∀ (u6 u9 u10 u11 u12 u13 u14 u15 u16 u17 u18 u50 u51 u52 u53 u54 u55 u56 u57 u58 u59 u60 u61 u62 u63 u64 u65 u66 u67 u68 u69 u70 u71 u72 u73 u74 u75 u76 u77 u78 u79 u80 u81 u82 u83 u84 u85 u86 u87 u88 u89 u90 u91 u92 u93 u94 u95 u96 u97 u98 u99 u100 u101 u102 u103 u104 u105 u106 u107 u108 u109 u110 u111 u112 u113 u114 u115 u116 u117 u118 u119 u120 u121 u122 u123 u124 u125 u126 u127 u128 u129 u130 u131 u132 u133 u134 u135 u136 u137 u138 u139 u140 : Value) (w' : World), u6 = .bool true → Mod no W w' → Q .ret ⟨List.toArray ((.slice A l.length c) :: (.int .i64 turn) :: (.bool b) :: d3 :: d4 :: d5 :: u6 :: (.pointer (some ⟨g, 0, none⟩)) :: d8 :: u9 :: u10 :: u11 :: u12 :: u13 :: u14 :: u15 :: u16 :: u17 :: u18 :: d19 :: d20 :: d21 :: d22 :: d23 :: d24 :: d25 :: d26 :: d27 :: d28 :: d29 :: d30 :: d31 :: d32 :: d33 :: d34 :: d35 :: d36 :: d37 :: d38 :: d39 :: d40 :: d41 :: d42 :: d43 :: d44 :: d45 :: d46 :: d47 :: d48 :: d49 :: u50 :: u51 :: u52 :: u53 :: u54 :: u55 :: u56 :: u57 :: u58 :: u59 :: u60 :: u61 :: u62 :: u63 :: u64 :: u65 :: u66 :: u67 :: u68 :: u69 :: u70 :: u71 :: u72 :: u73 :: u74 :: u75 :: u76 :: u77 :: u78 :: u79 :: u80 :: u81 :: u82 :: u83 :: u84 :: u85 :: u86 :: u87 :: u88 :: u89 :: u90 :: u91 :: u92 :: u93 :: u94 :: u95 :: u96 :: u97 :: u98 :: u99 :: u100 :: u101 :: u102 :: u103 :: u104 :: u105 :: u106 :: u107 :: u108 :: u109 :: u110 :: u111 :: u112 :: u113 :: u114 :: u115 :: u116 :: u117 :: u118 :: u119 :: u120 :: u121 :: u122 :: u123 :: u124 :: u125 :: u126 :: u127 :: u128 :: u129 :: u130 :: u131 :: u132 :: u133 :: u134 :: u135 :: u136 :: u137 :: u138 :: u139 :: u140 :: []), []⟩ w') :
    Code.wp Try.prog o5C Q ⟨List.toArray ((.slice A l.length c) :: (.int .i64 turn) :: (.bool b) :: d3 :: d4 :: d5 :: d6 :: (.pointer (some ⟨g, 0, none⟩)) :: d8 :: d9 :: d10 :: d11 :: d12 :: d13 :: d14 :: d15 :: d16 :: d17 :: d18 :: d19 :: d20 :: d21 :: d22 :: d23 :: d24 :: d25 :: d26 :: d27 :: d28 :: d29 :: d30 :: d31 :: d32 :: d33 :: d34 :: d35 :: d36 :: d37 :: d38 :: d39 :: d40 :: d41 :: d42 :: d43 :: d44 :: d45 :: d46 :: d47 :: d48 :: d49 :: d50 :: d51 :: d52 :: d53 :: d54 :: d55 :: d56 :: d57 :: d58 :: d59 :: d60 :: d61 :: d62 :: d63 :: d64 :: d65 :: d66 :: d67 :: d68 :: d69 :: d70 :: d71 :: d72 :: d73 :: d74 :: d75 :: d76 :: d77 :: d78 :: d79 :: d80 :: d81 :: d82 :: d83 :: d84 :: d85 :: d86 :: d87 :: d88 :: d89 :: d90 :: d91 :: d92 :: d93 :: d94 :: d95 :: d96 :: d97 :: d98 :: d99 :: d100 :: d101 :: d102 :: d103 :: d104 :: d105 :: d106 :: d107 :: d108 :: d109 :: d110 :: d111 :: d112 :: d113 :: d114 :: d115 :: d116 :: d117 :: d118 :: d119 :: d120 :: d121 :: d122 :: d123 :: d124 :: d125 :: d126 :: d127 :: d128 :: d129 :: d130 :: d131 :: d132 :: d133 :: d134 :: d135 :: d136 :: d137 :: d138 :: d139 :: d140 :: []), []⟩ w0 := by
  have HLE := Lib.hid hexit
  have HR := Lib.hid hr
  have HS := Lib.hid h
  have HWK := Lib.hid (And.intro hworks hl)
  obtain ⟨gr, C, f, H, _⟩ := h
  have HH := Lib.hid H
  clear hexit hr hl hworks H
  obtain ⟨n, hn⟩ : ∃ n, n = l.length / 2 := ⟨_, rfl⟩
  have hnl : n ≤ l.length := by omega
  have hq : ((l.length : Int)) / 2 = (n : Int) := by rw [hn]; omega
  have hwn : wrap64 (n : Int) = (n : Int) := by have h1 := HWK.out.2; exact IntWalk.wrap64_in _ (by omega)
  have HNL := Lib.hid hnl
  clear hn hnl
  show Code.wp Try.prog (Code.seq (sL o5C) (Code.seq (sL o6C) o2C)) Q _ _
  refine wp_seq_k fun K1 hK1 => ?_
  have HK1 := Lib.hid hK1
  clear hK1
  conv => arg 2; whnf
  go_wp2_with fail
  refine (len_any HH.out).mono ?_
  rintro e w' ⟨rfl, rfl⟩
  rw [full_len]
  go_wp2_with fail
  refine HK1.out _ _ ?_
  clear HK1
  refine wp_seq_k fun K2 hK2 => ?_
  have HK2 := Lib.hid hK2
  clear hK2
  conv => arg 2; whnf
  go_wp2_with fail
  simp only [hwn]
  refine HK2.out _ _ (o2_any (n := n) HWK.out.1 HR.out HWK.out.2 HNL.out HS.out _ _ _ _ _ _ _ _ _ _ _ _ _ _ _ _ _ _ _ _ _ _ _ _ _ _ _ _ _ _ _ _ _ _ _ _ _ _ _ _ _ _ _ _ _ _ _ _ _ _ _ _ _ _ _ _ _ _ _ _ _ _ _ _ _ _ _ _ _ _ _ _ _ _ _ _ _ _ _ _ _ _ _ _ _ _ _ _ _ _ _ _ _ _ _ _ _ _ _ _ _ _ _ _ _ _ _ _ _ _ _ _ _ _ _ _ _ _ _ _ _ _ _ _ _ _ _ _ _ _ _ _ _ _ _ _ _ ?_)
  intro u6 u10 u11 u12 u13 u14 u15 u16 u17 u18 u58 u59 u60 u61 u62 u63 u64 u65 u66 u67 u68 u69 u70 u71 u72 u73 u74 u75 u76 u77 u78 u79 u80 u81 u82 u83 u84 u85 u86 u87 u88 u89 u90 u91 u92 u93 u94 u95 u96 u97 u98 u99 u100 u101 u102 u103 u104 u105 u106 u107 u108 u109 u110 u111 u112 u113 u114 u115 u116 u117 u118 u119 u120 u121 u122 u123 u124 u125 u126 u127 u128 u129 u130 u131 u132 u133 u134 u135 u136 u137 u138 u139 u140 w' h M
  exact HLE.out _ _ _ _ _ _ _ _ _ _ _ _ _ _ _ _ _ _ _ _ _ _ _ _ _ _ _ _ _ _ _ _ _ _ _ _ _ _ _ _ _ _ _ _ _ _ _ _ _ _ _ _ _ _ _ _ _ _ _ _ _ _ _ _ _ _ _ _ _ _ _ _ _ _ _ _ _ _ _ _ _ _ _ _ _ _ _ _ _ _ _ _ _ _ _ _ _ _ _ _ _ _ _ h M

set_option maxRecDepth 100000 in
set_option maxHeartbeats 4000000 in
theorem order_law {W : World} {A : Option Addr} {c : Nat} {l : List Int} {turn : Int} {b : Bool} (hworks : ∀ w, Calls Try.prog 14 #[] w fun e w' => e = .returned (.bool true) ∧ Mod no w w') (hr : Rds W 1 A l.length (l.map iv)) (hl : l.length ≤ 1048576) (ht1 : -9223372036854775808 ≤ turn) (ht2 : turn ≤ 9223372036854775807) :
    Calls Try.prog 3 #[.slice A l.length c, .int .i64 turn, .bool b] W fun e w' => e = .returned (.bool true) ∧ Mod no W w' := by
  have HR := Lib.hid hr
  have HN := Lib.hid (And.intro hl (And.intro ht1 ht2))
  have HWK := Lib.hid hworks
  clear hr hl ht1 ht2 hworks
  go_enter Try.func3, Try.ntmps3
  go_wp2_with fail
  refine (new_any (vs := []) (c := 0) ⟨rfl, fun h => absurd h (by decide)⟩ (by decide)).mono ?_
  rintro e w1 ⟨g, rfl, S1⟩
  have HS := Lib.hid S1
  clear S1
  go_wp2_with fail
  rename (∀ (a : Act) (w : World), Code.wp _ (Code.seq (Code.seq (Code.region 10 _ _) _) _) _ a w → _) => hK1
  have HK1 := Lib.hid hK1
  clear hK1
  go_loopw [8] (O1I W g l b) (fun i _ => l.length - (intOf i).toNat)
  case atStart => exact ⟨0, Nat.zero_le _, rfl, by unfold part; split <;> exact HS.out⟩
  case round =>
    clear HS
    obtain ⟨k, hk, rfl, hS⟩ := hrel
    by_cases hkl : k < l.length
    · have hll := HN.out.1
      obtain ⟨ad, rfl, hc⟩ := HR.out.2 (by omega)
      obtain ⟨x, hx⟩ : ∃ x, l[k]? = some x := ⟨_, List.getElem?_eq_getElem hkl⟩
      have ck := cell_int hc hx hS.old
      have HS1 := Lib.hid hS
      have HX := Lib.hid hx
      have HJ := Lib.hid (show k + 1 ≤ l.length by omega)
      have hkk : (k : Int) < (l.length : Int) := by omega
      have hk0 : (0 : Int) ≤ (k : Int) := by omega
      have hw64 : wrap64 ((k : Int) + 1) = (k : Int) + 1 := IntWalk.wrap64_in _ (by omega)
      have HLE := Lib.hid (show (part l b k).length ≤ 1048576 by unfold part; split <;> simp <;> omega)
      clear hS hc hx hk hkl hll
      cases b
      · go_wp2_with fail
        refine (push_top x HS1.out HLE.out).mono ?_
        rintro e w3 ⟨rfl, S3⟩
        have HS3 := Lib.hid S3
        clear S3
        go_wp2_with fail
        go_roundw
        case rel =>
          refine ⟨k + 1, HJ.out, by go_num, ?_⟩
          have e1 : part l false (k + 1) = part l false k ++ [x] := by
            show l.take (k + 1) = l.take k ++ [x]
            rw [List.take_add_one, HX.out]; rfl
          rw [e1]; exact HS3.out
        case measure =>
          try rw [hw64]
          clear hw64
          have := HJ.out
          show l.length - ((k : Int) + 1).toNat < l.length - ((k : Int)).toNat
          omega
      · go_wp2_with fail
        refine (push_bottom x HS1.out HLE.out).mono ?_
        rintro e w3 ⟨rfl, S3⟩
        have HS3 := Lib.hid S3
        clear S3
        go_wp2_with fail
        go_roundw
        case rel =>
          refine ⟨k + 1, HJ.out, by go_num, ?_⟩
          have e1 : part l true (k + 1) = x :: part l true k := by
            show (l.take (k + 1)).reverse = x :: (l.take k).reverse
            rw [List.take_add_one, HX.out]; simp
          rw [e1]; exact HS3.out
        case measure =>
          try rw [hw64]
          clear hw64
          have := HJ.out
          show l.length - ((k : Int) + 1).toNat < l.length - ((k : Int)).toNat
          omega
    · obtain rfl : k = l.length := by omega
      have hkk : ¬ (l.length : Int) < (l.length : Int) := by omega
      have e1 : part l b l.length = full l b := by unfold part full; rw [List.take_length]
      rw [e1] at hS
      have HS1 := Lib.hid hS
      have HFL := Lib.hid (show (full l b).length ≤ 1048576 by rw [full_len]; exact HN.out.1)
      clear hS hk hkl e1
      go_wp2_with fail
      refine HK1.out _ _ ?_
      clear HK1
      refine wp_seq_k fun K2 hK2 => ?_
      have HK2 := Lib.hid hK2
      clear hK2
      by_cases htm : turn = -9223372036854775808
      · subst htm
        go_wp2_with fail
        refine HK2.out _ _ ?_
        refine o5_any HWK.out HR.out HN.out.1 HS1.out _ _ _ _ _ _ _ _ _ _ _ _ _ _ _ _ _ _ _ _ _ _ _ _ _ _ _ _ _ _ _ _ _ _ _ _ _ _ _ _ _ _ _ _ _ _ _ _ _ _ _ _ _ _ _ _ _ _ _ _ _ _ _ _ _ _ _ _ _ _ _ _ _ _ _ _ _ _ _ _ _ _ _ _ _ _ _ _ _ _ _ _ _ _ _ _ _ _ _ _ _ _ _ _ _ _ _ _ _ _ _ _ _ _ _ _ _ _ _ _ _ _ _ _ _ _ _ _ _ _ _ _ _ _ _ _ _ _ ?_
        intro u6 u9 u10 u11 u12 u13 u14 u15 u16 u17 u18 u50 u51 u52 u53 u54 u55 u56 u57 u58 u59 u60 u61 u62 u63 u64 u65 u66 u67 u68 u69 u70 u71 u72 u73 u74 u75 u76 u77 u78 u79 u80 u81 u82 u83 u84 u85 u86 u87 u88 u89 u90 u91 u92 u93 u94 u95 u96 u97 u98 u99 u100 u101 u102 u103 u104 u105 u106 u107 u108 u109 u110 u111 u112 u113 u114 u115 u116 u117 u118 u119 u120 u121 u122 u123 u124 u125 u126 u127 u128 u129 u130 u131 u132 u133 u134 u135 u136 u137 u138 u139 u140 w9 h6 M9
        subst h6
        go_ret
        exact ⟨rfl, M9⟩
      · have hneg : wrap64 (-turn) = -turn := by have h1 := HN.out.2; exact IntWalk.wrap64_in _ (by omega)
        go_wp2_with fail
        refine (turn_any turn HS1.out HFL.out HN.out.2.1 HN.out.2.2).mono ?_
        rintro e w3 ⟨rfl, S3⟩
        have HS3 := Lib.hid S3
        clear S3
        go_wp2_with fail
        refine (turn_any (-turn) HS3.out (by rw [rot_len]; exact HFL.out) ?_ ?_).mono ?_
        · have := HN.out.2; clear hneg; omega
        · have := HN.out.2; clear hneg; omega
        rintro e w4 ⟨rfl, S4⟩
        rw [rot_len, turn_back] at S4
        have HS4 := Lib.hid S4
        clear S4
        go_wp2_with fail
        refine HK2.out _ _ ?_
        refine o5_any HWK.out HR.out HN.out.1 HS4.out _ _ _ _ _ _ _ _ _ _ _ _ _ _ _ _ _ _ _ _ _ _ _ _ _ _ _ _ _ _ _ _ _ _ _ _ _ _ _ _ _ _ _ _ _ _ _ _ _ _ _ _ _ _ _ _ _ _ _ _ _ _ _ _ _ _ _ _ _ _ _ _ _ _ _ _ _ _ _ _ _ _ _ _ _ _ _ _ _ _ _ _ _ _ _ _ _ _ _ _ _ _ _ _ _ _ _ _ _ _ _ _ _ _ _ _ _ _ _ _ _ _ _ _ _ _ _ _ _ _ _ _ _ _ _ _ _ _ ?_
        intro u6 u9 u10 u11 u12 u13 u14 u15 u16 u17 u18 u50 u51 u52 u53 u54 u55 u56 u57 u58 u59 u60 u61 u62 u63 u64 u65 u66 u67 u68 u69 u70 u71 u72 u73 u74 u75 u76 u77 u78 u79 u80 u81 u82 u83 u84 u85 u86 u87 u88 u89 u90 u91 u92 u93 u94 u95 u96 u97 u98 u99 u100 u101 u102 u103 u104 u105 u106 u107 u108 u109 u110 u111 u112 u113 u114 u115 u116 u117 u118 u119 u120 u121 u122 u123 u124 u125 u126 u127 u128 u129 u130 u131 u132 u133 u134 u135 u136 u137 u138 u139 u140 w9 h6 M9
        subst h6
        go_ret
        exact ⟨rfl, M9⟩

end Go.Proofs.Ytknbehjhaaidoaa.DI
