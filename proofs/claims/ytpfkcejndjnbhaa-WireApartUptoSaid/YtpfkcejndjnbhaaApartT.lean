/- The law WireApart: what stands behind the second loop (printed by wireapartt.py). -/
import Derived.Test.YtpfkcejndjnbhaaApartZ
import Derived.StillTailTactics
namespace Go.Proofs.Ytpfkcejndjnbhaa.AP
open Go.RowKit Mem WM
open Go.Proofs.Ytpfkcejndjnbhaa.WD (RdT RdB u8_info own_mod key_size rowS conv_string)
open Go.Proofs.Ytpfkcejndjnbhaa.OP (AddI AddAt allB allB_0 allB_succ Elems cell_lt atA copied_r)
open Go.Proofs.Ytpfkcejndjnbhaa.EN
open Go.Proofs.Ytpfkcejndjnbhaa.EK (RdT.pre Safe nextK)
open Go.Proofs.Ytpfkcejndjnbhaa.AD (Enc0)
open Go.Proofs.Ytpfkcejndjnbhaa.BK (conv_rds add_range range_mod add_info allB_le)
open Go.Proofs.Ytpfkcejndjnbhaa.ON (addL_len)
set_option linter.unusedVariables false
set_option linter.unusedSimpArgs false

theorem row_trans {w w1 w2 : World} {A A1 : Option Addr} (hA : nextA w A A1) (h : Mod (atA A) w w1) (h' : Mod (atA A1) w1 w2) : Mod (atA A) w w2 :=
  h.trans h' fun k hk c => by
    rcases hA with rfl | ⟨b, hb, rfl⟩
    · exact c
    · injection c with c; injection c with c; omega
/-- The loop that appends. -/
def EeInv (w0 : World) (Ab : Option Addr) (n : Nat) (b i : Value) (wr : World) : Prop :=
  ∃ (k : Nat) (A : Option Addr) (c : Nat) (l : List UInt8), k ≤ 80 ∧ i = .int .i64 (k : Int) ∧ b = .slice A l.length c ∧ l.length = n + k ∧ RowA wr A c l ∧ nextA w0 Ab A ∧ Mod (atA Ab) w0 wr
/-- The loop that turns every byte. -/
def UpInv (w0 : World) (Ab : Option Addr) (n c : Nat) (i : Value) (wr : World) : Prop :=
  ∃ (k : Nat) (l : List UInt8), k ≤ n ∧ i = .int .i64 (k : Int) ∧ l.length = n ∧ RowA wr Ab c l ∧ Mod (atA Ab) w0 wr
theorem up_byte (b : UInt8) : IntKind.u8.wrap ((b.toNat : Int) + 1) = ((b + 1).toNat : Int) := by
  have h := b.toNat_lt
  have e : (b + 1).toNat = (b.toNat + 1) % 256 := by simp
  rw [e]
  have h1 : IntKind.u8.signed = false := rfl
  have h2 : IntKind.u8.bits = 8 := rfl
  simp [IntKind.wrap, h1, h2]
theorem bvs_set (l : List UInt8) (k : Nat) (b : UInt8) : (bvs l).set k (bv b) = bvs (l.set k b) := by simp [bvs, List.map_set]

set_option maxRecDepth 100000 in
set_option maxHeartbeats 4000000 in
theorem t2_any {W : World} {q r : Nat} {P X Y : List UInt8} {A1 A2 Aa Ao At Ac Ab : Option Addr} {ca co ct cc cb n : Nat} {lb : List UInt8} {w0 : World} (HZ : ∀ w', Mod (atA Ab) w0 w' → ApZ W q r P X Y A1 A2 Aa Ao At Ac w') (hb : RowA w0 Ab cb lb) (hn : lb.length = n) (hn2 : n ≤ 120000000)
    (hl : P.length ≤ 60000000 ∧ X.length ≤ 60000000 ∧ Y.length ≤ 60000000)
    (d0 d1 d2 d3 d4 d5 d6 d11 d13 d16 d17 d18 d19 d20 d21 d22 d23 d24 d25 d26 d27 d28 d29 d30 d31 d32 d33 d34 d35 d36 d37 d38 d39 d40 d41 d42 d43 d44 d45 d46 d47 d48 d49 d50 d51 d52 d53 d54 d55 d56 d57 d58 d59 d60 d61 d62 d63 d64 d65 d66 d67 d68 d69 d70 d71 d72 d73 d74 d75 d76 d77 d78 d79 d80 d81 d82 d83 d84 d85 d86 d87 d88 d89 d90 d91 d92 d93 d94 d95 d96 d97 d98 d99 d100 d101 d102 d103 d104 d105 d106 d107 d108 d109 d110 d111 d112 d113 d114 d115 d116 d117 d118 d119 d120 d121 d122 d123 d124 d125 d126 d127 d128 d129 d130 d131 d132 d133 d134 d135 d136 d137 d138 d139 d140 d141 d142 d143 d144 d145 d146 d147 d148 d149 : Value) (Q : Exit → Act → World → Prop)
    (hexit : ∀ (u6 u14 u17 u115 u116 u117 u118 u119 u120 u121 u122 u123 u124 u125 u126 u127 u128 u129 u130 u131 u132 u133 u134 u135 u136 u137 u138 u139 u140 u141 u142 u143 u144 u145 u146 u147 u148 u149 : Value) (w' : World), u6 = .bool true → Mod no W w' → Q .ret ⟨List.toArray (d0 :: d1 :: d2 :: d3 :: d4 :: d5 :: u6 :: (.pointer (some ⟨q, 0, none⟩)) :: (.slice Aa P.length ca) :: (.slice Ao X.length co) :: (.slice At Y.length ct) :: d11 :: (.pointer (some ⟨r, 0, none⟩)) :: d13 :: u14 :: (.slice Ac (P.length + Y.length) cc) :: d16 :: u17 :: d18 :: d19 :: d20 :: d21 :: d22 :: d23 :: d24 :: d25 :: d26 :: d27 :: d28 :: d29 :: d30 :: d31 :: d32 :: d33 :: d34 :: d35 :: d36 :: d37 :: d38 :: d39 :: d40 :: d41 :: d42 :: d43 :: d44 :: d45 :: d46 :: d47 :: d48 :: d49 :: d50 :: d51 :: d52 :: d53 :: d54 :: d55 :: d56 :: d57 :: d58 :: d59 :: d60 :: d61 :: d62 :: d63 :: d64 :: d65 :: d66 :: d67 :: d68 :: d69 :: d70 :: d71 :: d72 :: d73 :: d74 :: d75 :: d76 :: d77 :: d78 :: d79 :: d80 :: d81 :: d82 :: d83 :: d84 :: d85 :: d86 :: d87 :: d88 :: d89 :: d90 :: d91 :: d92 :: d93 :: d94 :: d95 :: d96 :: d97 :: d98 :: d99 :: d100 :: d101 :: d102 :: d103 :: d104 :: d105 :: d106 :: d107 :: d108 :: d109 :: d110 :: d111 :: d112 :: d113 :: d114 :: u115 :: u116 :: u117 :: u118 :: u119 :: u120 :: u121 :: u122 :: u123 :: u124 :: u125 :: u126 :: u127 :: u128 :: u129 :: u130 :: u131 :: u132 :: u133 :: u134 :: u135 :: u136 :: u137 :: u138 :: u139 :: u140 :: u141 :: u142 :: u143 :: u144 :: u145 :: u146 :: u147 :: u148 :: u149 :: []), []⟩ w') :
    Code.wp Try.prog t2C Q ⟨List.toArray (d0 :: d1 :: d2 :: d3 :: d4 :: d5 :: d6 :: (.pointer (some ⟨q, 0, none⟩)) :: (.slice Aa P.length ca) :: (.slice Ao X.length co) :: (.slice At Y.length ct) :: d11 :: (.pointer (some ⟨r, 0, none⟩)) :: d13 :: (.slice Ab n cb) :: (.slice Ac (P.length + Y.length) cc) :: d16 :: d17 :: d18 :: d19 :: d20 :: d21 :: d22 :: d23 :: d24 :: d25 :: d26 :: d27 :: d28 :: d29 :: d30 :: d31 :: d32 :: d33 :: d34 :: d35 :: d36 :: d37 :: d38 :: d39 :: d40 :: d41 :: d42 :: d43 :: d44 :: d45 :: d46 :: d47 :: d48 :: d49 :: d50 :: d51 :: d52 :: d53 :: d54 :: d55 :: d56 :: d57 :: d58 :: d59 :: d60 :: d61 :: d62 :: d63 :: d64 :: d65 :: d66 :: d67 :: d68 :: d69 :: d70 :: d71 :: d72 :: d73 :: d74 :: d75 :: d76 :: d77 :: d78 :: d79 :: d80 :: d81 :: d82 :: d83 :: d84 :: d85 :: d86 :: d87 :: d88 :: d89 :: d90 :: d91 :: d92 :: d93 :: d94 :: d95 :: d96 :: d97 :: d98 :: d99 :: d100 :: d101 :: d102 :: d103 :: d104 :: d105 :: d106 :: d107 :: d108 :: d109 :: d110 :: d111 :: d112 :: d113 :: d114 :: d115 :: d116 :: d117 :: d118 :: d119 :: d120 :: d121 :: d122 :: d123 :: d124 :: d125 :: d126 :: d127 :: d128 :: d129 :: d130 :: d131 :: d132 :: d133 :: d134 :: d135 :: d136 :: d137 :: d138 :: d139 :: d140 :: d141 :: d142 :: d143 :: d144 :: d145 :: d146 :: d147 :: d148 :: d149 :: []), []⟩ w0 := by
  have HLE := Lib.hid hexit
  have HL := Lib.hid hl
  have HB := Lib.hid hb
  have HZZ := Lib.hid HZ
  have HN := Lib.hid (And.intro hn hn2)
  clear hexit hl hb HZ hn hn2
  show Code.wp Try.prog (Code.seq (sL t2C) t3C) Q _ _
  refine wp_seq_k fun K1 hK1 => ?_
  have HK1 := Lib.hid hK1
  clear hK1
  conv => arg 2; whnf
  go_wp2_with fail
  go_loopw [14, 17] (EeInv w0 Ab n) (fun _ i _ => 80 - (intOf i).toNat)
  case atStart =>
    obtain ⟨hn, hn2⟩ := HN.out
    subst hn
    exact ⟨0, Ab, cb, lb, Nat.zero_le _, rfl, rfl, rfl, HB.out, nextA.refl _ _, Mod.refl _ _⟩
  case round =>
    obtain ⟨k, A, c, l, hk, rfl, rfl, hll, hR, hA, M⟩ := hrel
    have HR := Lib.hid hR
    have HA := Lib.hid (And.intro hA M)
    have HLL := Lib.hid (And.intro hk hll)
    clear hR hA M hll
    by_cases hlt : k < 80
    · have hki : (k : Int) < 80 := by omega
      have hw64 : wrap64 ((k : Int) + 1) = (k : Int) + 1 := IntWalk.wrap64_in _ (by omega)
      have HLT := Lib.hid hlt
      clear hk hlt
      go_wp2_with (first
        | (at_builtin
           refine wpList_enc1 rfl (.tmp 119) (.tmp 120) rfl wr A c _ l rfl rfl HR.out 238 238 (by decide) rfl (by have := HLL.out; have := HN.out; omega) ?_))
      intro A' c' w' nA R9 M9
      have HX := Lib.hid (And.intro nA (And.intro R9 M9))
      clear nA R9 M9
      go_wp2_with fail
      go_roundw
      case rel =>
        obtain ⟨nA, R9, M9⟩ := HX.out
        obtain ⟨hA, M⟩ := HA.out
        have hll := HLL.out.2
        refine ⟨k + 1, A', c', l ++ [238], HLT.out, by go_num, by first | rfl | (rw [List.length_append]; rfl), by rw [List.length_append, hll]; simp; omega, R9, hA.trans nA M.size, row_trans hA M M9⟩
      case measure =>
        have := HLT.out
        try rw [hw64]
        show 80 - ((k : Int) + 1).toNat < 80 - ((k : Int)).toNat
        omega
    · obtain rfl : k = 80 := by omega
      clear hk hlt
      go_wp2_with fail
      refine HK1.out _ _ (last_any (HZZ.out _ HA.out.2) HL.out _ _ _ _ _ _ _ _ _ _ _ _ _ _ _ _ _ _ _ _ _ _ _ _ _ _ _ _ _ _ _ _ _ _ _ _ _ _ _ _ _ _ _ _ _ _ _ _ _ _ _ _ _ _ _ _ _ _ _ _ _ _ _ _ _ _ _ _ _ _ _ _ _ _ _ _ _ _ _ _ _ _ _ _ _ _ _ _ _ _ _ _ _ _ _ _ _ _ _ _ _ _ _ _ _ _ _ _ _ _ _ _ _ _ _ _ _ _ _ _ _ _ _ _ _ _ _ _ _ _ _ _ _ _ _ _ _ _ _ _ _ _ _ _ _ ?_)
      intro u6 u122 u123 u124 u125 u126 u127 u128 u129 u130 u131 u132 u133 u134 u135 u136 u137 u138 u139 u140 u141 u142 u143 u144 u145 u146 u147 u148 u149 w' h M
      exact HLE.out _ _ _ _ _ _ _ _ _ _ _ _ _ _ _ _ _ _ _ _ _ _ _ _ _ _ _ _ _ _ _ _ _ _ _ _ _ _ _ h M

set_option maxRecDepth 100000 in
set_option maxHeartbeats 4000000 in
theorem t1_any {W : World} {q r : Nat} {P X Y : List UInt8} {A1 A2 Aa Ao At Ac Ab : Option Addr} {ca co ct cc cb n : Nat} {lb : List UInt8} {w0 : World} (HZ : ∀ w', Mod (atA Ab) w0 w' → ApZ W q r P X Y A1 A2 Aa Ao At Ac w') (hb : RowA w0 Ab cb lb) (hn : lb.length = n) (hn2 : n ≤ 120000000)
    (hl : P.length ≤ 60000000 ∧ X.length ≤ 60000000 ∧ Y.length ≤ 60000000)
    (d0 d1 d2 d3 d4 d5 d6 d11 d13 d16 d17 d18 d19 d20 d21 d22 d23 d24 d25 d26 d27 d28 d29 d30 d31 d32 d33 d34 d35 d36 d37 d38 d39 d40 d41 d42 d43 d44 d45 d46 d47 d48 d49 d50 d51 d52 d53 d54 d55 d56 d57 d58 d59 d60 d61 d62 d63 d64 d65 d66 d67 d68 d69 d70 d71 d72 d73 d74 d75 d76 d77 d78 d79 d80 d81 d82 d83 d84 d85 d86 d87 d88 d89 d90 d91 d92 d93 d94 d95 d96 d97 d98 d99 d100 d101 d102 d103 d104 d105 d106 d107 d108 d109 d110 d111 d112 d113 d114 d115 d116 d117 d118 d119 d120 d121 d122 d123 d124 d125 d126 d127 d128 d129 d130 d131 d132 d133 d134 d135 d136 d137 d138 d139 d140 d141 d142 d143 d144 d145 d146 d147 d148 d149 : Value) (Q : Exit → Act → World → Prop)
    (hexit : ∀ (u6 u14 u16 u17 u101 u102 u103 u104 u105 u106 u107 u108 u109 u110 u111 u112 u113 u114 u115 u116 u117 u118 u119 u120 u121 u122 u123 u124 u125 u126 u127 u128 u129 u130 u131 u132 u133 u134 u135 u136 u137 u138 u139 u140 u141 u142 u143 u144 u145 u146 u147 u148 u149 : Value) (w' : World), u6 = .bool true → Mod no W w' → Q .ret ⟨List.toArray (d0 :: d1 :: d2 :: d3 :: d4 :: d5 :: u6 :: (.pointer (some ⟨q, 0, none⟩)) :: (.slice Aa P.length ca) :: (.slice Ao X.length co) :: (.slice At Y.length ct) :: d11 :: (.pointer (some ⟨r, 0, none⟩)) :: d13 :: u14 :: (.slice Ac (P.length + Y.length) cc) :: u16 :: u17 :: d18 :: d19 :: d20 :: d21 :: d22 :: d23 :: d24 :: d25 :: d26 :: d27 :: d28 :: d29 :: d30 :: d31 :: d32 :: d33 :: d34 :: d35 :: d36 :: d37 :: d38 :: d39 :: d40 :: d41 :: d42 :: d43 :: d44 :: d45 :: d46 :: d47 :: d48 :: d49 :: d50 :: d51 :: d52 :: d53 :: d54 :: d55 :: d56 :: d57 :: d58 :: d59 :: d60 :: d61 :: d62 :: d63 :: d64 :: d65 :: d66 :: d67 :: d68 :: d69 :: d70 :: d71 :: d72 :: d73 :: d74 :: d75 :: d76 :: d77 :: d78 :: d79 :: d80 :: d81 :: d82 :: d83 :: d84 :: d85 :: d86 :: d87 :: d88 :: d89 :: d90 :: d91 :: d92 :: d93 :: d94 :: d95 :: d96 :: d97 :: d98 :: d99 :: d100 :: u101 :: u102 :: u103 :: u104 :: u105 :: u106 :: u107 :: u108 :: u109 :: u110 :: u111 :: u112 :: u113 :: u114 :: u115 :: u116 :: u117 :: u118 :: u119 :: u120 :: u121 :: u122 :: u123 :: u124 :: u125 :: u126 :: u127 :: u128 :: u129 :: u130 :: u131 :: u132 :: u133 :: u134 :: u135 :: u136 :: u137 :: u138 :: u139 :: u140 :: u141 :: u142 :: u143 :: u144 :: u145 :: u146 :: u147 :: u148 :: u149 :: []), []⟩ w') :
    Code.wp Try.prog t1C Q ⟨List.toArray (d0 :: d1 :: d2 :: d3 :: d4 :: d5 :: d6 :: (.pointer (some ⟨q, 0, none⟩)) :: (.slice Aa P.length ca) :: (.slice Ao X.length co) :: (.slice At Y.length ct) :: d11 :: (.pointer (some ⟨r, 0, none⟩)) :: d13 :: (.slice Ab n cb) :: (.slice Ac (P.length + Y.length) cc) :: d16 :: d17 :: d18 :: d19 :: d20 :: d21 :: d22 :: d23 :: d24 :: d25 :: d26 :: d27 :: d28 :: d29 :: d30 :: d31 :: d32 :: d33 :: d34 :: d35 :: d36 :: d37 :: d38 :: d39 :: d40 :: d41 :: d42 :: d43 :: d44 :: d45 :: d46 :: d47 :: d48 :: d49 :: d50 :: d51 :: d52 :: d53 :: d54 :: d55 :: d56 :: d57 :: d58 :: d59 :: d60 :: d61 :: d62 :: d63 :: d64 :: d65 :: d66 :: d67 :: d68 :: d69 :: d70 :: d71 :: d72 :: d73 :: d74 :: d75 :: d76 :: d77 :: d78 :: d79 :: d80 :: d81 :: d82 :: d83 :: d84 :: d85 :: d86 :: d87 :: d88 :: d89 :: d90 :: d91 :: d92 :: d93 :: d94 :: d95 :: d96 :: d97 :: d98 :: d99 :: d100 :: d101 :: d102 :: d103 :: d104 :: d105 :: d106 :: d107 :: d108 :: d109 :: d110 :: d111 :: d112 :: d113 :: d114 :: d115 :: d116 :: d117 :: d118 :: d119 :: d120 :: d121 :: d122 :: d123 :: d124 :: d125 :: d126 :: d127 :: d128 :: d129 :: d130 :: d131 :: d132 :: d133 :: d134 :: d135 :: d136 :: d137 :: d138 :: d139 :: d140 :: d141 :: d142 :: d143 :: d144 :: d145 :: d146 :: d147 :: d148 :: d149 :: []), []⟩ w0 := by
  have HLE := Lib.hid hexit
  have HL := Lib.hid hl
  have HB := Lib.hid hb
  have HZZ := Lib.hid HZ
  have HN := Lib.hid (And.intro hn hn2)
  clear hexit hl hb HZ hn hn2
  show Code.wp Try.prog (Code.seq (sL t1C) t2C) Q _ _
  refine wp_seq_k fun K1 hK1 => ?_
  have HK1 := Lib.hid hK1
  clear hK1
  conv => arg 2; whnf
  go_wp2_with fail
  go_loopw [16] (UpInv w0 Ab n cb) (fun i _ => n - (intOf i).toNat)
  case atStart => exact ⟨0, lb, Nat.zero_le _, rfl, HN.out.1, HB.out, Mod.refl _ _⟩
  case round =>
    obtain ⟨k, l, hk, rfl, hll, hR, M⟩ := hrel
    have hnn := HN.out.2
    by_cases hlt : k < n
    · obtain ⟨b6, rfl⟩ : ∃ b6, Ab = some ⟨b6, 0, none⟩ := by
        rcases hR.2 with ⟨hv, h0⟩ | ⟨g', cap, cur, hv, _⟩
        · omega
        · injection hv with hv; exact ⟨_, hv⟩
      obtain ⟨cur, hbk, hcur⟩ : ∃ cur, Blk wr b6 5 cur ∧ cur[k]? = (bvs l)[k]? := by
        rcases hR.2 with ⟨hv, h0⟩ | ⟨g', cap, cur, hv, _, hb, _, _, _, h4⟩
        · cases hv
        · injection hv with hv
          injection hv with hv
          injection hv with hv
          subst hv
          refine ⟨cur, hb, ?_⟩
          rw [← h4, List.getElem?_take, if_pos (by omega)]; simp
      have ck := hbk.cell k
      rw [hcur, bvs_get l k (by omega)] at ck
      have fk := hbk.free k
      have hub := up_byte (l[k]'(by omega))
      obtain ⟨x, hx⟩ : ∃ x, x = l[k]'(by omega) := ⟨_, rfl⟩
      rw [← hx] at ck hub
      have hkl : (k : Int) < (n : Int) := by omega
      have hk0 : (0 : Int) ≤ (k : Int) := by omega
      have hw64 : wrap64 ((k : Int) + 1) = (k : Int) + 1 := IntWalk.wrap64_in _ (by omega)
      have HR := Lib.hid hR
      have HM := Lib.hid M
      have HKK := Lib.hid (And.intro hlt hll)
      clear hR M hbk hcur hx hlt hll hk hnn
      go_wp2_with fail
      go_roundw
      case rel =>
        obtain ⟨o2', m2'⟩ := WD.own_set HR.out k (bv (x + 1))
        rw [bvs_set] at o2'
        have hll := HKK.out.2
        refine ⟨k + 1, l.set k (x + 1), HKK.out.1, by go_num, by rw [List.length_set]; exact hll, ?_, HM.out.set (p := ⟨b6, k, none⟩) (fun _ => rfl) _⟩
        show World.ownsRow _ _ _ _ (.slice _ (l.set k (x + 1)).length _) (l.set k (x + 1)).length _
        rw [List.length_set]
        exact o2'
      case measure =>
        have := HKK.out.1
        try rw [hw64]
        show n - ((k : Int) + 1).toNat < n - ((k : Int)).toNat
        omega
    · obtain rfl : k = n := by omega
      have HR := Lib.hid hR
      have HM := Lib.hid M
      clear hR M hk hlt hnn
      go_wp2_with fail
      refine HK1.out _ _ (t2_any (fun w' M' => HZZ.out w' (HM.out.and_then M')) HR.out hll HN.out.2 HL.out _ _ _ _ _ _ _ _ _ _ _ _ _ _ _ _ _ _ _ _ _ _ _ _ _ _ _ _ _ _ _ _ _ _ _ _ _ _ _ _ _ _ _ _ _ _ _ _ _ _ _ _ _ _ _ _ _ _ _ _ _ _ _ _ _ _ _ _ _ _ _ _ _ _ _ _ _ _ _ _ _ _ _ _ _ _ _ _ _ _ _ _ _ _ _ _ _ _ _ _ _ _ _ _ _ _ _ _ _ _ _ _ _ _ _ _ _ _ _ _ _ _ _ _ _ _ _ _ _ _ _ _ _ _ _ _ _ _ _ _ _ _ _ _ ?_)
      intro u6 u14 u17 u115 u116 u117 u118 u119 u120 u121 u122 u123 u124 u125 u126 u127 u128 u129 u130 u131 u132 u133 u134 u135 u136 u137 u138 u139 u140 u141 u142 u143 u144 u145 u146 u147 u148 u149 w' h M
      exact HLE.out _ _ _ _ _ _ _ _ _ _ _ _ _ _ _ _ _ _ _ _ _ _ _ _ _ _ _ _ _ _ _ _ _ _ _ _ _ _ _ _ _ _ _ _ _ _ _ _ _ _ _ _ _ _ h M

set_option maxRecDepth 100000 in
set_option maxHeartbeats 4000000 in
theorem t0_any {W : World} {q r : Nat} {P X Y : List UInt8} {va vo vt : Value} {w0 : World} (H : ApS W q r P X Y va vo vt w0)
    (hl : P.length ≤ 60000000 ∧ X.length ≤ 60000000 ∧ Y.length ≤ 60000000)
    (d0 d1 d2 d3 d4 d5 d6 d11 d13 d14 d15 d16 d17 d18 d19 d20 d21 d22 d23 d24 d25 d26 d27 d28 d29 d30 d31 d32 d33 d34 d35 d36 d37 d38 d39 d40 d41 d42 d43 d44 d45 d46 d47 d48 d49 d50 d51 d52 d53 d54 d55 d56 d57 d58 d59 d60 d61 d62 d63 d64 d65 d66 d67 d68 d69 d70 d71 d72 d73 d74 d75 d76 d77 d78 d79 d80 d81 d82 d83 d84 d85 d86 d87 d88 d89 d90 d91 d92 d93 d94 d95 d96 d97 d98 d99 d100 d101 d102 d103 d104 d105 d106 d107 d108 d109 d110 d111 d112 d113 d114 d115 d116 d117 d118 d119 d120 d121 d122 d123 d124 d125 d126 d127 d128 d129 d130 d131 d132 d133 d134 d135 d136 d137 d138 d139 d140 d141 d142 d143 d144 d145 d146 d147 d148 d149 : Value) (Q : Exit → Act → World → Prop)
    (hexit : ∀ (u6 u14 u15 u16 u17 u81 u82 u83 u84 u85 u86 u87 u88 u89 u90 u91 u92 u93 u94 u95 u96 u97 u98 u99 u100 u101 u102 u103 u104 u105 u106 u107 u108 u109 u110 u111 u112 u113 u114 u115 u116 u117 u118 u119 u120 u121 u122 u123 u124 u125 u126 u127 u128 u129 u130 u131 u132 u133 u134 u135 u136 u137 u138 u139 u140 u141 u142 u143 u144 u145 u146 u147 u148 u149 : Value) (w' : World), u6 = .bool true → Mod no W w' → Q .ret ⟨List.toArray (d0 :: d1 :: d2 :: d3 :: d4 :: d5 :: u6 :: (.pointer (some ⟨q, 0, none⟩)) :: (va) :: (vo) :: (vt) :: d11 :: (.pointer (some ⟨r, 0, none⟩)) :: d13 :: u14 :: u15 :: u16 :: u17 :: d18 :: d19 :: d20 :: d21 :: d22 :: d23 :: d24 :: d25 :: d26 :: d27 :: d28 :: d29 :: d30 :: d31 :: d32 :: d33 :: d34 :: d35 :: d36 :: d37 :: d38 :: d39 :: d40 :: d41 :: d42 :: d43 :: d44 :: d45 :: d46 :: d47 :: d48 :: d49 :: d50 :: d51 :: d52 :: d53 :: d54 :: d55 :: d56 :: d57 :: d58 :: d59 :: d60 :: d61 :: d62 :: d63 :: d64 :: d65 :: d66 :: d67 :: d68 :: d69 :: d70 :: d71 :: d72 :: d73 :: d74 :: d75 :: d76 :: d77 :: d78 :: d79 :: d80 :: u81 :: u82 :: u83 :: u84 :: u85 :: u86 :: u87 :: u88 :: u89 :: u90 :: u91 :: u92 :: u93 :: u94 :: u95 :: u96 :: u97 :: u98 :: u99 :: u100 :: u101 :: u102 :: u103 :: u104 :: u105 :: u106 :: u107 :: u108 :: u109 :: u110 :: u111 :: u112 :: u113 :: u114 :: u115 :: u116 :: u117 :: u118 :: u119 :: u120 :: u121 :: u122 :: u123 :: u124 :: u125 :: u126 :: u127 :: u128 :: u129 :: u130 :: u131 :: u132 :: u133 :: u134 :: u135 :: u136 :: u137 :: u138 :: u139 :: u140 :: u141 :: u142 :: u143 :: u144 :: u145 :: u146 :: u147 :: u148 :: u149 :: []), []⟩ w') :
    Code.wp Try.prog t0C Q ⟨List.toArray (d0 :: d1 :: d2 :: d3 :: d4 :: d5 :: d6 :: (.pointer (some ⟨q, 0, none⟩)) :: (va) :: (vo) :: (vt) :: d11 :: (.pointer (some ⟨r, 0, none⟩)) :: d13 :: d14 :: d15 :: d16 :: d17 :: d18 :: d19 :: d20 :: d21 :: d22 :: d23 :: d24 :: d25 :: d26 :: d27 :: d28 :: d29 :: d30 :: d31 :: d32 :: d33 :: d34 :: d35 :: d36 :: d37 :: d38 :: d39 :: d40 :: d41 :: d42 :: d43 :: d44 :: d45 :: d46 :: d47 :: d48 :: d49 :: d50 :: d51 :: d52 :: d53 :: d54 :: d55 :: d56 :: d57 :: d58 :: d59 :: d60 :: d61 :: d62 :: d63 :: d64 :: d65 :: d66 :: d67 :: d68 :: d69 :: d70 :: d71 :: d72 :: d73 :: d74 :: d75 :: d76 :: d77 :: d78 :: d79 :: d80 :: d81 :: d82 :: d83 :: d84 :: d85 :: d86 :: d87 :: d88 :: d89 :: d90 :: d91 :: d92 :: d93 :: d94 :: d95 :: d96 :: d97 :: d98 :: d99 :: d100 :: d101 :: d102 :: d103 :: d104 :: d105 :: d106 :: d107 :: d108 :: d109 :: d110 :: d111 :: d112 :: d113 :: d114 :: d115 :: d116 :: d117 :: d118 :: d119 :: d120 :: d121 :: d122 :: d123 :: d124 :: d125 :: d126 :: d127 :: d128 :: d129 :: d130 :: d131 :: d132 :: d133 :: d134 :: d135 :: d136 :: d137 :: d138 :: d139 :: d140 :: d141 :: d142 :: d143 :: d144 :: d145 :: d146 :: d147 :: d148 :: d149 :: []), []⟩ w0 := by
  have HLE := Lib.hid hexit
  have HL := Lib.hid hl
  clear hexit hl
  obtain ⟨A0, A1, A2, Aa, Ao, At, ca, co, ct, rfl, rfl, rfl, H⟩ := H
  have HH := Lib.hid H
  clear H
  have hPX : (P ++ X).length ≤ 120000000 := by have := HL.out; rw [List.length_append]; omega
  have hPY : (P ++ Y).length ≤ 120000000 := by have := HL.out; rw [List.length_append]; omega
  have HLP := Lib.hid (And.intro hPX hPY)
  clear hPX hPY
  show Code.wp Try.prog (Code.seq (sL t0C) (Code.seq (sL (sR t0C)) (Code.seq (sL (sR (sR t0C))) t1C))) Q _ _
  refine wp_seq_k fun K1 hK1 => ?_
  have HK1 := Lib.hid hK1
  clear hK1
  conv => arg 2; whnf
  go_wp2_with fail
  refine (bytes_any HH.out.e.r (by have := HLP.out; omega)).mono ?_
  rintro e w1 ⟨Ab, cb, rfl, own1, M1⟩
  obtain ⟨row1, ge1⟩ := RowA.of own1
  have HR1 := Lib.hid (And.intro row1 (And.intro ge1 M1))
  clear own1 row1 ge1 M1
  go_wp2_with fail
  refine HK1.out _ _ ?_
  clear HK1 K1
  refine wp_seq_k fun K2 hK2 => ?_
  have HK2 := Lib.hid hK2
  clear hK2
  conv => arg 2; whnf
  go_wp2_with fail
  obtain ⟨cq, hcq⟩ := HH.out.e.blk
  refine (bytes_any (encR_no (HH.out.f.encR HH.out.qr hcq) HR1.out.2.2) (by have := HLP.out; omega)).mono ?_
  rintro e w2 ⟨Ac, cc, rfl, own2, M2⟩
  obtain ⟨row2, ge2⟩ := RowA.of own2
  have HR2 := Lib.hid (And.intro row2 (And.intro ge2 M2))
  clear own2 row2 ge2 M2
  go_wp2_with fail
  refine HK2.out _ _ ?_
  clear HK2 K2
  have M02 := HR1.out.2.2.and_then HR2.out.2.2
  have hZ : ∀ w', Mod (atA Ab) w2 w' → ApZ W q r P X Y A1 A2 Aa Ao At Ac w' := fun w' M => by
    have m0 : Mod no w0 w' := M02.trans M fun b hb c => by have := HR1.out.2.1 b c; omega
    refine ⟨encR_no HH.out.e.r m0, encR_no (HH.out.f.encR HH.out.qr hcq) m0, (HH.out.ra.mod m0 (fun _ _ c => c)).rdt, (HH.out.ro.mod m0 (fun _ _ c => c)).rdt, (HH.out.rt.mod m0 (fun _ _ c => c)).rdt, (HR2.out.1.mod M fun b hb c => ?_).rdt, HH.out.old.and_then m0⟩
    have h1 := HR2.out.2.1 b hb
    have h2 := HR1.out.1.lt b c
    omega
  have z2 := hZ w2 (Mod.refl _ _)
  have row1 := HR1.out.1.mod HR2.out.2.2 (fun _ _ c => c)
  have HZ := Lib.hid hZ
  have HR := Lib.hid row1
  have v1 := conv_string row1.rdt (P.length + X.length) cb (by rw [List.length_append])
  have v2 := conv_string z2.ra P.length ca rfl
  have v3 := conv_string z2.ro X.length co rfl
  have v4 := conv_string z2.rc (P.length + Y.length) cc (by rw [List.length_append])
  have v5 := conv_string z2.rt Y.length ct rfl
  have e1 : (⟨P.toArray⟩ : ByteArray) ++ ⟨X.toArray⟩ = ⟨(P ++ X).toArray⟩ := by
    apply ByteArray.ext
    simp
  have e2 : (⟨P.toArray⟩ : ByteArray) ++ ⟨Y.toArray⟩ = ⟨(P ++ Y).toArray⟩ := by
    apply ByteArray.ext
    simp
  have l1 : P.length + X.length ≤ 9223372036854775807 := by have := HL.out; omega
  have l2 : P.length + Y.length ≤ 9223372036854775807 := by have := HL.out; omega
  clear hZ z2 row1 M02 hcq
  refine wp_seq_k fun K3 hK3 => ?_
  have HK3 := Lib.hid hK3
  clear hK3
  conv => arg 2; whnf
  go_wp2_with fail
  refine HK3.out _ _ (t1_any HZ.out HR.out (n := P.length + X.length) (by rw [List.length_append]) (by have := HLP.out.1; rw [List.length_append] at this; exact this) HL.out _ _ _ _ _ _ _ _ _ _ _ _ _ _ _ _ _ _ _ _ _ _ _ _ _ _ _ _ _ _ _ _ _ _ _ _ _ _ _ _ _ _ _ _ _ _ _ _ _ _ _ _ _ _ _ _ _ _ _ _ _ _ _ _ _ _ _ _ _ _ _ _ _ _ _ _ _ _ _ _ _ _ _ _ _ _ _ _ _ _ _ _ _ _ _ _ _ _ _ _ _ _ _ _ _ _ _ _ _ _ _ _ _ _ _ _ _ _ _ _ _ _ _ _ _ _ _ _ _ _ _ _ _ _ _ _ _ _ _ _ _ _ _ _ ?_)
  intro u6 u14 u16 u17 u101 u102 u103 u104 u105 u106 u107 u108 u109 u110 u111 u112 u113 u114 u115 u116 u117 u118 u119 u120 u121 u122 u123 u124 u125 u126 u127 u128 u129 u130 u131 u132 u133 u134 u135 u136 u137 u138 u139 u140 u141 u142 u143 u144 u145 u146 u147 u148 u149 w' h M
  exact HLE.out _ _ _ _ _ _ _ _ _ _ _ _ _ _ _ _ _ _ _ _ _ _ _ _ _ _ _ _ _ _ _ _ _ _ _ _ _ _ _ _ _ _ _ _ _ _ _ _ _ _ _ _ _ _ _ _ _ _ _ _ _ _ _ _ _ _ _ _ _ _ _ _ _ _ _ h M

end Go.Proofs.Ytpfkcejndjnbhaa.AP
