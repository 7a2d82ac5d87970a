/- The law WireEach: behind the first loop (printed by wireeach.py). -/
import Derived.Test.YtpfkcejndjnbhaaEachA
import Derived.StillTailTactics
namespace Go.Proofs.Ytpfkcejndjnbhaa.EC
open Go.RowKit Mem WM
open Go.Proofs.Ytpfkcejndjnbhaa.WD (RdT RdB u8_info own_mod LiveAt DeadAt DecAt rowS conv_string wpList_put1 end_any endV)
open Go.Proofs.Ytpfkcejndjnbhaa.RD (RLive RDead RAt stands_any fault_as rraw_any rvar_n)
open Go.Proofs.Ytpfkcejndjnbhaa.OP (ropen_r rds_mod)
set_option linter.unusedVariables false
set_option linter.unusedSimpArgs false

def sR : Code → Code | .seq _ b => b | c => c
def sL : Code → Code | .seq a _ => a | c => c
noncomputable def bodyC : Code := Try.f5.body.getD .skip
noncomputable def e1C : Code := sR (sR (sR (sR (sR (sR (sR (sR (sR (sR bodyC)))))))))
noncomputable def e2C : Code := sR e1C
noncomputable def e3C : Code := sR e2C
noncomputable def e4C : Code := sR e3C
noncomputable def e5C : Code := sR e4C

theorem tx_cell {w : World} {base : Nat} {A : Option Addr} {n c j : Nat} {R : List (List UInt8)} (h : w.ownsRow base 9 1 (.slice A n c) n (R.map tx)) (hj : j < R.length) :
    ∃ b, A = some ⟨b, 0, none⟩ ∧ w.cell? ⟨b, j, none⟩ = some (.string ⟨R[j].toArray⟩) := by
  have h1 := h.1
  have hv : (R.map tx)[j]? = some (.string ⟨R[j].toArray⟩) := by rw [List.getElem?_map, List.getElem?_eq_getElem hj]; rfl
  rcases h.2 with ⟨hA, h0⟩ | ⟨g', cap, cur, hA, _, hb, _, _, _, h4⟩
  · simp at h1; omega
  · injection hA with hA
    refine ⟨g', hA, ?_⟩
    have hb' : Blk w g' 9 cur := hb
    have := hb'.cell j
    rw [this, ← hv, ← h4, List.getElem?_take, if_pos (by simp at h1; omega)]
    simp

def SameInv (w0 : World) (m : Nat) (i : Value) (wr : World) : Prop := ∃ j : Nat, j ≤ m ∧ i = .int .i64 (j : Int) ∧ Mod no w0 wr

set_option maxRecDepth 100000 in
set_option maxHeartbeats 4000000 in
theorem e5_any {W : World} {Ab : Option Addr} {cb : Nat} {l : List UInt8} {n : Int} {w0 : World} (hb : Rds W 1 Ab l.length (bvs l)) (hl : l.length ≤ 1048576) (old : Mod no W w0)
    (d2 d3 d4 d5 d6 d7 d8 d9 d10 d11 d12 d13 d14 d15 d16 d17 d18 d19 d20 d21 d22 d23 d24 d25 d26 d27 d28 d29 d30 d31 d32 d33 d34 d35 d36 d37 d38 d39 d40 d41 d42 d43 d44 d45 d46 d47 d48 d49 d50 d51 d52 d53 d54 d55 d56 d57 d58 d59 d60 d61 d62 d63 d64 d65 d66 d67 d68 d69 d70 d71 d72 d73 d74 d75 d76 d77 d78 d79 d80 d81 d82 d83 d84 d85 d86 d87 d88 d89 d90 d91 d92 d93 d94 d95 d96 d97 d98 d99 d100 d101 d102 d103 d104 d105 d106 d107 d108 d109 d110 d111 d112 d113 d114 d115 d116 d117 d118 d119 d120 d121 d122 d123 d124 d125 d126 d127 d128 d129 d130 d131 d132 d133 d134 d135 d136 d137 d138 d139 : Value) (Q : Exit → Act → World → Prop)
    (hexit : ∀ (u6 u18 u19 u20 u21 u22 u112 u113 u114 u115 u116 u117 u118 u119 u120 u121 u122 u123 u124 u125 u126 u127 u128 u129 u130 u131 u132 u133 u134 u135 u136 u137 u138 u139 : Value) (w' : World), u6 = .bool true → Mod no W w' → Q .ret ⟨List.toArray ((.slice Ab l.length cb) :: (.int .i64 n) :: d2 :: d3 :: d4 :: d5 :: u6 :: d7 :: d8 :: d9 :: d10 :: d11 :: d12 :: d13 :: d14 :: d15 :: d16 :: d17 :: u18 :: u19 :: u20 :: u21 :: u22 :: d23 :: d24 :: d25 :: d26 :: d27 :: d28 :: d29 :: d30 :: d31 :: d32 :: d33 :: d34 :: d35 :: d36 :: d37 :: d38 :: d39 :: d40 :: d41 :: d42 :: d43 :: d44 :: d45 :: d46 :: d47 :: d48 :: d49 :: d50 :: d51 :: d52 :: d53 :: d54 :: d55 :: d56 :: d57 :: d58 :: d59 :: d60 :: d61 :: d62 :: d63 :: d64 :: d65 :: d66 :: d67 :: d68 :: d69 :: d70 :: d71 :: d72 :: d73 :: d74 :: d75 :: d76 :: d77 :: d78 :: d79 :: d80 :: d81 :: d82 :: d83 :: d84 :: d85 :: d86 :: d87 :: d88 :: d89 :: d90 :: d91 :: d92 :: d93 :: d94 :: d95 :: d96 :: d97 :: d98 :: d99 :: d100 :: d101 :: d102 :: d103 :: d104 :: d105 :: d106 :: d107 :: d108 :: d109 :: d110 :: d111 :: u112 :: u113 :: u114 :: u115 :: u116 :: u117 :: u118 :: u119 :: u120 :: u121 :: u122 :: u123 :: u124 :: u125 :: u126 :: u127 :: u128 :: u129 :: u130 :: u131 :: u132 :: u133 :: u134 :: u135 :: u136 :: u137 :: u138 :: u139 :: []), []⟩ w') :
    Code.wp Try.prog e5C Q ⟨List.toArray ((.slice Ab l.length cb) :: (.int .i64 n) :: d2 :: d3 :: d4 :: d5 :: d6 :: d7 :: d8 :: d9 :: d10 :: d11 :: d12 :: d13 :: d14 :: d15 :: d16 :: d17 :: d18 :: d19 :: d20 :: d21 :: d22 :: d23 :: d24 :: d25 :: d26 :: d27 :: d28 :: d29 :: d30 :: d31 :: d32 :: d33 :: d34 :: d35 :: d36 :: d37 :: d38 :: d39 :: d40 :: d41 :: d42 :: d43 :: d44 :: d45 :: d46 :: d47 :: d48 :: d49 :: d50 :: d51 :: d52 :: d53 :: d54 :: d55 :: d56 :: d57 :: d58 :: d59 :: d60 :: d61 :: d62 :: d63 :: d64 :: d65 :: d66 :: d67 :: d68 :: d69 :: d70 :: d71 :: d72 :: d73 :: d74 :: d75 :: d76 :: d77 :: d78 :: d79 :: d80 :: d81 :: d82 :: d83 :: d84 :: d85 :: d86 :: d87 :: d88 :: d89 :: d90 :: d91 :: d92 :: d93 :: d94 :: d95 :: d96 :: d97 :: d98 :: d99 :: d100 :: d101 :: d102 :: d103 :: d104 :: d105 :: d106 :: d107 :: d108 :: d109 :: d110 :: d111 :: d112 :: d113 :: d114 :: d115 :: d116 :: d117 :: d118 :: d119 :: d120 :: d121 :: d122 :: d123 :: d124 :: d125 :: d126 :: d127 :: d128 :: d129 :: d130 :: d131 :: d132 :: d133 :: d134 :: d135 :: d136 :: d137 :: d138 :: d139 :: []), []⟩ w0 := by
  have HLE := Lib.hid hexit
  have HB := Lib.hid (And.intro hb (And.intro hl old))
  clear hexit hb hl old
  have hfa := fun (W : World) => fault_as (.agg #[.int .i64 (0 : Nat), .int .i64 (1 : Nat)]) W
  simp at hfa
  conv => arg 2; whnf
  go_wp2_with fail
  refine (open_r (rds_mod HB.out.1 HB.out.2.2) (by have := HB.out.2.1; omega)).mono ?_
  rintro e w1 ⟨g, gb, rfl, hg, hgb, hL, M1⟩
  have HL := Lib.hid hL
  have HM1 := Lib.hid (And.intro hg M1)
  clear hL hg M1
  go_wp2_with fail
  refine (each_nil n HL.out).mono ?_
  rintro e w2 ⟨rfl, D2, M2⟩
  have HD2 := Lib.hid D2
  have HM2 := Lib.hid M2
  clear D2 M2
  go_wp2_with fail
  refine (end_any (gb := gb) (s := .dead 0 1) HD2.out).mono ?_
  rintro e w3 ⟨rfl, q, hq⟩
  have HM3 := Lib.hid (show Mod no w2 w3 from by rw [hq]; exact (Mod.refl no w2).drewN q)
  clear hq
  simp only [endA, endV]
  go_wp2_with fail
  refine HLE.out _ _ _ _ _ _ _ _ _ _ _ _ _ _ _ _ _ _ _ _ _ _ _ _ _ _ _ _ _ _ _ _ _ _ _ rfl ?_
  have M02 : Mod no W w2 := (HB.out.2.2.and_then HM1.out.2).trans HM2.out fun b hb c => by
    have c : b = g := c
    have := HM1.out.1
    have := HB.out.2.2.size
    omega
  have M03 := M02.and_then HM3.out
  exact M03.alloc _

set_option maxRecDepth 100000 in
set_option maxHeartbeats 4000000 in
theorem e4_any {W : World} {Ab A1 A2 : Option Addr} {cb c1 c2 base1 base2 : Nat} {l : List UInt8} {R : List (List UInt8)} {n : Int} {w0 : World} (hb : Rds W 1 Ab l.length (bvs l)) (hl : l.length ≤ 1048576) (old : Mod no W w0)
    (o1 : w0.ownsRow base1 9 1 (.slice A1 R.length c1) R.length (R.map tx)) (o2 : w0.ownsRow base2 9 1 (.slice A2 R.length c2) R.length (R.map tx)) (hR : R.length ≤ 100000000)
    (d2 d3 d4 d5 d6 d7 d8 d9 d11 d12 d14 d15 d16 d17 d18 d19 d20 d21 d22 d23 d24 d25 d26 d27 d28 d29 d30 d31 d32 d33 d34 d35 d36 d37 d38 d39 d40 d41 d42 d43 d44 d45 d46 d47 d48 d49 d50 d51 d52 d53 d54 d55 d56 d57 d58 d59 d60 d61 d62 d63 d64 d65 d66 d67 d68 d69 d70 d71 d72 d73 d74 d75 d76 d77 d78 d79 d80 d81 d82 d83 d84 d85 d86 d87 d88 d89 d90 d91 d92 d93 d94 d95 d96 d97 d98 d99 d100 d101 d102 d103 d104 d105 d106 d107 d108 d109 d110 d111 d112 d113 d114 d115 d116 d117 d118 d119 d120 d121 d122 d123 d124 d125 d126 d127 d128 d129 d130 d131 d132 d133 d134 d135 d136 d137 d138 d139 : Value) (Q : Exit → Act → World → Prop)
    (hexit : ∀ (u6 u17 u18 u19 u20 u21 u22 u97 u98 u99 u100 u101 u102 u103 u104 u105 u106 u107 u108 u109 u110 u111 u112 u113 u114 u115 u116 u117 u118 u119 u120 u121 u122 u123 u124 u125 u126 u127 u128 u129 u130 u131 u132 u133 u134 u135 u136 u137 u138 u139 : Value) (w' : World), u6 = .bool true → Mod no W w' → Q .ret ⟨List.toArray ((.slice Ab l.length cb) :: (.int .i64 n) :: d2 :: d3 :: d4 :: d5 :: u6 :: d7 :: d8 :: d9 :: (.slice A1 R.length c1) :: d11 :: d12 :: (.slice A2 R.length c2) :: d14 :: d15 :: d16 :: u17 :: u18 :: u19 :: u20 :: u21 :: u22 :: d23 :: d24 :: d25 :: d26 :: d27 :: d28 :: d29 :: d30 :: d31 :: d32 :: d33 :: d34 :: d35 :: d36 :: d37 :: d38 :: d39 :: d40 :: d41 :: d42 :: d43 :: d44 :: d45 :: d46 :: d47 :: d48 :: d49 :: d50 :: d51 :: d52 :: d53 :: d54 :: d55 :: d56 :: d57 :: d58 :: d59 :: d60 :: d61 :: d62 :: d63 :: d64 :: d65 :: d66 :: d67 :: d68 :: d69 :: d70 :: d71 :: d72 :: d73 :: d74 :: d75 :: d76 :: d77 :: d78 :: d79 :: d80 :: d81 :: d82 :: d83 :: d84 :: d85 :: d86 :: d87 :: d88 :: d89 :: d90 :: d91 :: d92 :: d93 :: d94 :: d95 :: d96 :: u97 :: u98 :: u99 :: u100 :: u101 :: u102 :: u103 :: u104 :: u105 :: u106 :: u107 :: u108 :: u109 :: u110 :: u111 :: u112 :: u113 :: u114 :: u115 :: u116 :: u117 :: u118 :: u119 :: u120 :: u121 :: u122 :: u123 :: u124 :: u125 :: u126 :: u127 :: u128 :: u129 :: u130 :: u131 :: u132 :: u133 :: u134 :: u135 :: u136 :: u137 :: u138 :: u139 :: []), []⟩ w') :
    Code.wp Try.prog e4C Q ⟨List.toArray ((.slice Ab l.length cb) :: (.int .i64 n) :: d2 :: d3 :: d4 :: d5 :: d6 :: d7 :: d8 :: d9 :: (.slice A1 R.length c1) :: d11 :: d12 :: (.slice A2 R.length c2) :: d14 :: d15 :: d16 :: d17 :: d18 :: d19 :: d20 :: d21 :: d22 :: d23 :: d24 :: d25 :: d26 :: d27 :: d28 :: d29 :: d30 :: d31 :: d32 :: d33 :: d34 :: d35 :: d36 :: d37 :: d38 :: d39 :: d40 :: d41 :: d42 :: d43 :: d44 :: d45 :: d46 :: d47 :: d48 :: d49 :: d50 :: d51 :: d52 :: d53 :: d54 :: d55 :: d56 :: d57 :: d58 :: d59 :: d60 :: d61 :: d62 :: d63 :: d64 :: d65 :: d66 :: d67 :: d68 :: d69 :: d70 :: d71 :: d72 :: d73 :: d74 :: d75 :: d76 :: d77 :: d78 :: d79 :: d80 :: d81 :: d82 :: d83 :: d84 :: d85 :: d86 :: d87 :: d88 :: d89 :: d90 :: d91 :: d92 :: d93 :: d94 :: d95 :: d96 :: d97 :: d98 :: d99 :: d100 :: d101 :: d102 :: d103 :: d104 :: d105 :: d106 :: d107 :: d108 :: d109 :: d110 :: d111 :: d112 :: d113 :: d114 :: d115 :: d116 :: d117 :: d118 :: d119 :: d120 :: d121 :: d122 :: d123 :: d124 :: d125 :: d126 :: d127 :: d128 :: d129 :: d130 :: d131 :: d132 :: d133 :: d134 :: d135 :: d136 :: d137 :: d138 :: d139 :: []), []⟩ w0 := by
  have HLE := Lib.hid hexit
  have HB := Lib.hid (And.intro hb (And.intro hl old))
  have HO := Lib.hid (And.intro o1 (And.intro o2 hR))
  clear hexit hb hl old o1 o2 hR
  show Code.wp Try.prog (Code.seq (sL e4C) e5C) Q _ _
  refine wp_seq_k fun K1 hK1 => ?_
  have HK1 := Lib.hid hK1
  clear hK1
  conv => arg 2; whnf
  go_wp2_with fail
  go_loopw [17] (SameInv w0 R.length) (fun i _ => R.length - (intOf i).toNat)
  case atStart => exact ⟨0, Nat.zero_le _, rfl, Mod.refl _ _⟩
  case round =>
    obtain ⟨j, hj, rfl, M⟩ := hrel
    by_cases hlj : j < R.length
    · obtain ⟨b1, rfl, k1⟩ := tx_cell (own_mod HO.out.1 M (fun _ _ c => c)) hlj
      obtain ⟨b2, rfl, k2⟩ := tx_cell (own_mod HO.out.2.1 M (fun _ _ c => c)) hlj
      obtain ⟨t, ht⟩ : ∃ t, t = R[j] := ⟨_, rfl⟩
      rw [← ht] at k1 k2
      have hj64 : (j : Int) < 100000000 := by have := HO.out.2.2; omega
      have hjl : (j : Int) < (R.length : Int) := by omega
      have hj0 : (0 : Int) ≤ (j : Int) := by omega
      have HM := Lib.hid M
      have HJ := Lib.hid hlj
      clear ht M hj hlj
      go_wp2_with fail
      go_quiet (fail)
      have HM2 := Lib.hid (HM.out.drewN nq)
      clear k1 k2
      generalize wr.drewN nq = w7 at *
      have hw64 : wrap64 ((j : Int) + 1) = (j : Int) + 1 := IntWalk.wrap64_in _ (by omega)
      go_wp2_with fail
      go_roundw
      case rel => exact ⟨j + 1, HJ.out, by go_num, HM2.out⟩
      case measure =>
        have := HJ.out
        try rw [hw64]
        show R.length - ((j : Int) + 1).toNat < R.length - ((j : Int)).toNat
        omega
    · obtain rfl : j = R.length := by omega
      have HM := Lib.hid M
      clear M hj hlj
      go_wp2_with fail
      refine HK1.out _ _ (e5_any HB.out.1 HB.out.2.1 (HB.out.2.2.and_then HM.out) _ _ _ _ _ _ _ _ _ _ _ _ _ _ _ _ _ _ _ _ _ _ _ _ _ _ _ _ _ _ _ _ _ _ _ _ _ _ _ _ _ _ _ _ _ _ _ _ _ _ _ _ _ _ _ _ _ _ _ _ _ _ _ _ _ _ _ _ _ _ _ _ _ _ _ _ _ _ _ _ _ _ _ _ _ _ _ _ _ _ _ _ _ _ _ _ _ _ _ _ _ _ _ _ _ _ _ _ _ _ _ _ _ _ _ _ _ _ _ _ _ _ _ _ _ _ _ _ _ _ _ _ _ _ _ _ _ _ _ ?_)
      intro u6 u18 u19 u20 u21 u22 u112 u113 u114 u115 u116 u117 u118 u119 u120 u121 u122 u123 u124 u125 u126 u127 u128 u129 u130 u131 u132 u133 u134 u135 u136 u137 u138 u139 w' h M
      exact HLE.out _ _ _ _ _ _ _ _ _ _ _ _ _ _ _ _ _ _ _ _ _ _ _ _ _ _ _ _ _ _ _ _ _ _ _ _ _ _ _ _ _ _ _ _ _ _ _ _ _ _ _ h M

set_option maxRecDepth 100000 in
set_option maxHeartbeats 4000000 in
theorem e2_any {W : World} {Ab A1 A2 : Option Addr} {cb c1 c2 base1 base2 g gb r rb kc K nE : Nat} {l : List UInt8} {s : St} {R E : List (List UInt8)} {n : Int} {w0 : World} (hb : Rds W 1 Ab l.length (bvs l)) (hl : l.length ≤ 1048576) (old : Mod no W w0)
    (D : DecAt w0 g gb l s) (Rr : RAt w0 r rb l s) (G : RD.Good s) (hk : Blk w0 kc 3 #[.int .i64 (K : Int)])
    (o1 : w0.ownsRow base1 9 1 (.slice A1 R.length c1) R.length (R.map tx)) (o2 : w0.ownsRow base2 9 1 (.slice A2 nE c2) nE (E.map tx)) (hnE : E.length = nE) (hR : R.length ≤ 100000000)
    (hc : (∃ p, s = .live p) ∧ R = E ∨ (∃ a c, s = .dead a c) ∧ R = [])
    (d2 d3 d4 d5 d6 d11 d12 d15 d16 d17 d18 d19 d20 d21 d22 d23 d24 d25 d26 d27 d28 d29 d30 d31 d32 d33 d34 d35 d36 d37 d38 d39 d40 d41 d42 d43 d44 d45 d46 d47 d48 d49 d50 d51 d52 d53 d54 d55 d56 d57 d58 d59 d60 d61 d62 d63 d64 d65 d66 d67 d68 d69 d70 d71 d72 d73 d74 d75 d76 d77 d78 d79 d80 d81 d82 d83 d84 d85 d86 d87 d88 d89 d90 d91 d92 d93 d94 d95 d96 d97 d98 d99 d100 d101 d102 d103 d104 d105 d106 d107 d108 d109 d110 d111 d112 d113 d114 d115 d116 d117 d118 d119 d120 d121 d122 d123 d124 d125 d126 d127 d128 d129 d130 d131 d132 d133 d134 d135 d136 d137 d138 d139 : Value) (Q : Exit → Act → World → Prop)
    (hexit : ∀ (u6 u13 u17 u18 u19 u20 u21 u22 u77 u78 u79 u80 u81 u82 u83 u84 u85 u86 u87 u88 u89 u90 u91 u92 u93 u94 u95 u96 u97 u98 u99 u100 u101 u102 u103 u104 u105 u106 u107 u108 u109 u110 u111 u112 u113 u114 u115 u116 u117 u118 u119 u120 u121 u122 u123 u124 u125 u126 u127 u128 u129 u130 u131 u132 u133 u134 u135 u136 u137 u138 u139 : Value) (w' : World), u6 = .bool true → Mod no W w' → Q .ret ⟨List.toArray ((.slice Ab l.length cb) :: (.int .i64 n) :: d2 :: d3 :: d4 :: d5 :: u6 :: (.pointer (some ⟨g, 0, none⟩)) :: (.pointer (some ⟨r, 0, none⟩)) :: (.pointer (some ⟨kc, 0, none⟩)) :: (.slice A1 R.length c1) :: d11 :: d12 :: u13 :: (.int .i64 (K : Int)) :: d15 :: d16 :: u17 :: u18 :: u19 :: u20 :: u21 :: u22 :: d23 :: d24 :: d25 :: d26 :: d27 :: d28 :: d29 :: d30 :: d31 :: d32 :: d33 :: d34 :: d35 :: d36 :: d37 :: d38 :: d39 :: d40 :: d41 :: d42 :: d43 :: d44 :: d45 :: d46 :: d47 :: d48 :: d49 :: d50 :: d51 :: d52 :: d53 :: d54 :: d55 :: d56 :: d57 :: d58 :: d59 :: d60 :: d61 :: d62 :: d63 :: d64 :: d65 :: d66 :: d67 :: d68 :: d69 :: d70 :: d71 :: d72 :: d73 :: d74 :: d75 :: d76 :: u77 :: u78 :: u79 :: u80 :: u81 :: u82 :: u83 :: u84 :: u85 :: u86 :: u87 :: u88 :: u89 :: u90 :: u91 :: u92 :: u93 :: u94 :: u95 :: u96 :: u97 :: u98 :: u99 :: u100 :: u101 :: u102 :: u103 :: u104 :: u105 :: u106 :: u107 :: u108 :: u109 :: u110 :: u111 :: u112 :: u113 :: u114 :: u115 :: u116 :: u117 :: u118 :: u119 :: u120 :: u121 :: u122 :: u123 :: u124 :: u125 :: u126 :: u127 :: u128 :: u129 :: u130 :: u131 :: u132 :: u133 :: u134 :: u135 :: u136 :: u137 :: u138 :: u139 :: []), []⟩ w') :
    Code.wp Try.prog e2C Q ⟨List.toArray ((.slice Ab l.length cb) :: (.int .i64 n) :: d2 :: d3 :: d4 :: d5 :: d6 :: (.pointer (some ⟨g, 0, none⟩)) :: (.pointer (some ⟨r, 0, none⟩)) :: (.pointer (some ⟨kc, 0, none⟩)) :: (.slice A1 R.length c1) :: d11 :: d12 :: (.slice A2 nE c2) :: (.int .i64 (K : Int)) :: d15 :: d16 :: d17 :: d18 :: d19 :: d20 :: d21 :: d22 :: d23 :: d24 :: d25 :: d26 :: d27 :: d28 :: d29 :: d30 :: d31 :: d32 :: d33 :: d34 :: d35 :: d36 :: d37 :: d38 :: d39 :: d40 :: d41 :: d42 :: d43 :: d44 :: d45 :: d46 :: d47 :: d48 :: d49 :: d50 :: d51 :: d52 :: d53 :: d54 :: d55 :: d56 :: d57 :: d58 :: d59 :: d60 :: d61 :: d62 :: d63 :: d64 :: d65 :: d66 :: d67 :: d68 :: d69 :: d70 :: d71 :: d72 :: d73 :: d74 :: d75 :: d76 :: d77 :: d78 :: d79 :: d80 :: d81 :: d82 :: d83 :: d84 :: d85 :: d86 :: d87 :: d88 :: d89 :: d90 :: d91 :: d92 :: d93 :: d94 :: d95 :: d96 :: d97 :: d98 :: d99 :: d100 :: d101 :: d102 :: d103 :: d104 :: d105 :: d106 :: d107 :: d108 :: d109 :: d110 :: d111 :: d112 :: d113 :: d114 :: d115 :: d116 :: d117 :: d118 :: d119 :: d120 :: d121 :: d122 :: d123 :: d124 :: d125 :: d126 :: d127 :: d128 :: d129 :: d130 :: d131 :: d132 :: d133 :: d134 :: d135 :: d136 :: d137 :: d138 :: d139 :: []), []⟩ w0 := by
  subst hnE
  have HLE := Lib.hid hexit
  have HB := Lib.hid (And.intro hb (And.intro hl old))
  have HO := Lib.hid (And.intro o1 (And.intro o2 hR))
  have HD := Lib.hid (And.intro D (And.intro Rr G))
  have k0 := hk.cell 0
  simp at k0
  clear hexit hb hl old o1 o2 hR D Rr G hk
  show Code.wp Try.prog (Code.seq (sL e2C) (Code.seq (sL (sR e2C)) e4C)) Q _ _
  refine wp_seq_k fun K1 hK1 => ?_
  have HK1 := Lib.hid hK1
  clear hK1
  rcases hc with ⟨⟨p, rfl⟩, rfl⟩ | ⟨⟨a, c, rfl⟩, rfl⟩
  · obtain ⟨A9, c9, hrb, _⟩ : RLive w0 r rb l p := HD.out.2.1
    have r2 := hrb.cell 2
    simp at r2
    clear hrb
    conv => arg 2; whnf
    go_wp2_with fail
    refine HK1.out _ _ ?_
    clear HK1 K1 r2
    refine wp_seq_k fun K2 hK2 => ?_
    have HK2 := Lib.hid hK2
    clear hK2
    conv => arg 2; whnf
    go_wp2_with (first | (go_at_call 22; refine (stands_any HD.out.1 HD.out.2.1 HD.out.2.2).mono ?_; rintro e w5 ⟨rfl, M5⟩; have HM5 := Lib.hid M5; clear M5))
    refine HK2.out _ _ (e4_any HB.out.1 HB.out.2.1 (HB.out.2.2.and_then HM5.out) (own_mod HO.out.1 HM5.out (fun _ _ c => c)) (own_mod HO.out.2.1 HM5.out (fun _ _ c => c)) HO.out.2.2 _ _ _ _ _ _ _ _ _ _ _ _ _ _ _ _ _ _ _ _ _ _ _ _ _ _ _ _ _ _ _ _ _ _ _ _ _ _ _ _ _ _ _ _ _ _ _ _ _ _ _ _ _ _ _ _ _ _ _ _ _ _ _ _ _ _ _ _ _ _ _ _ _ _ _ _ _ _ _ _ _ _ _ _ _ _ _ _ _ _ _ _ _ _ _ _ _ _ _ _ _ _ _ _ _ _ _ _ _ _ _ _ _ _ _ _ _ _ _ _ _ _ _ _ _ _ _ _ _ _ _ _ _ _ _ _ _ ?_)
    intro u6 u17 u18 u19 u20 u21 u22 u97 u98 u99 u100 u101 u102 u103 u104 u105 u106 u107 u108 u109 u110 u111 u112 u113 u114 u115 u116 u117 u118 u119 u120 u121 u122 u123 u124 u125 u126 u127 u128 u129 u130 u131 u132 u133 u134 u135 u136 u137 u138 u139 w' h M
    exact HLE.out _ _ _ _ _ _ _ _ _ _ _ _ _ _ _ _ _ _ _ _ _ _ _ _ _ _ _ _ _ _ _ _ _ _ _ _ _ _ _ _ _ _ _ _ _ _ _ _ _ _ _ _ _ _ _ _ _ _ _ _ _ _ _ _ _ _ _ _ _ _ _ _ h M
  · obtain ⟨A9, c9, p9, hrb, _⟩ : RDead w0 r l a c := HD.out.2.1
    have r2 := hrb.cell 2
    simp at r2
    clear hrb
    conv => arg 2; whnf
    go_wp2_with fail
    refine HK1.out _ _ ?_
    clear HK1 K1 r2
    refine wp_seq_k fun K2 hK2 => ?_
    have HK2 := Lib.hid hK2
    clear hK2
    conv => arg 2; whnf
    go_wp2_with (first | (go_at_call 22; refine (stands_any HD.out.1 HD.out.2.1 HD.out.2.2).mono ?_; rintro e w5 ⟨rfl, M5⟩; have HM5 := Lib.hid M5; clear M5))
    refine HK2.out _ _ (e4_any (R := []) (A2 := none) (c2 := 0) (base2 := 0) HB.out.1 HB.out.2.1 (HB.out.2.2.and_then HM5.out) (own_mod HO.out.1 HM5.out (fun _ _ c => c)) ⟨rfl, .inl ⟨rfl, rfl⟩⟩ HO.out.2.2 _ _ _ _ _ _ _ _ _ _ _ _ _ _ _ _ _ _ _ _ _ _ _ _ _ _ _ _ _ _ _ _ _ _ _ _ _ _ _ _ _ _ _ _ _ _ _ _ _ _ _ _ _ _ _ _ _ _ _ _ _ _ _ _ _ _ _ _ _ _ _ _ _ _ _ _ _ _ _ _ _ _ _ _ _ _ _ _ _ _ _ _ _ _ _ _ _ _ _ _ _ _ _ _ _ _ _ _ _ _ _ _ _ _ _ _ _ _ _ _ _ _ _ _ _ _ _ _ _ _ _ _ _ _ _ _ _ ?_)
    intro u6 u17 u18 u19 u20 u21 u22 u97 u98 u99 u100 u101 u102 u103 u104 u105 u106 u107 u108 u109 u110 u111 u112 u113 u114 u115 u116 u117 u118 u119 u120 u121 u122 u123 u124 u125 u126 u127 u128 u129 u130 u131 u132 u133 u134 u135 u136 u137 u138 u139 w' h M
    exact HLE.out _ _ _ _ _ _ _ _ _ _ _ _ _ _ _ _ _ _ _ _ _ _ _ _ _ _ _ _ _ _ _ _ _ _ _ _ _ _ _ _ _ _ _ _ _ _ _ _ _ _ _ _ _ _ _ _ _ _ _ _ _ _ _ _ _ _ _ _ _ _ _ _ h M

end Go.Proofs.Ytpfkcejndjnbhaa.EC
