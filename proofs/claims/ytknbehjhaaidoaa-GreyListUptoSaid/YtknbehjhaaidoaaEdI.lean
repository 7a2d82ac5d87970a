/- The law's own: what it compares, and what it appends (printed by greyown3.py). -/
import Derived.Test.YtknbehjhaaidoaaEdH
namespace Go.Proofs.Ytknbehjhaaidoaa.DG
open Go.RowKit Mem DQ
set_option linter.unusedVariables false
set_option linter.unusedSimpArgs false

def NilJ (w0 : World) (m : Nat) (i : Value) (wr : World) : Prop := ∃ j : Nat, j ≤ m ∧ i = .int .i64 (j : Int) ∧ wr = w0

set_option maxRecDepth 100000 in
set_option maxHeartbeats 4000000 in
theorem w7_any {W w0 : World} {lv : Option Addr} {live : Bool} {lg g gr r n m ca cb cg ga gb base : Nat} {A Aa Ab Ag : Option Addr} {L : List (List Value)} (h : Two w0 lv live lg g gr r A L) (hM : Mod no W w0)
    (hN : Num w0 base (.slice Ag m cg) m m (-1)) (hca : Cel w0 ga n (-1)) (hcb : Cel w0 gb n (-100000)) (hA : 0 < n → Aa = some ⟨ga, 0, none⟩) (hB : 0 < n → Ab = some ⟨gb, 0, none⟩) (hm : m ≤ 1048600)
    (d2 d3 d4 d7 d8 d10 d11 d12 d13 d14 d15 d16 d17 d18 d19 d20 d21 d22 d23 d24 d25 d26 d27 d28 d29 d30 d31 d32 d33 d34 d35 d36 d37 d38 d39 d40 d41 d42 d43 d44 d45 d46 d47 d48 d49 d50 d51 d52 d53 d54 d55 d56 d57 d58 d59 d60 d61 d62 d63 d64 d65 d66 d67 d68 d69 d70 d71 d72 d73 d74 d75 d76 d77 d78 d79 d80 d81 d82 d83 d84 d85 d86 d87 d88 d89 d90 d91 d92 d93 d94 d95 d96 d97 d98 d99 d100 d101 d102 d103 d104 d105 d106 d107 d108 d109 d110 d111 d112 d113 d114 d115 d116 d117 d118 d119 d120 d121 d122 : Value) (Q : Exit → Act → World → Prop)
    (hexit : ∀ (u4 u11 u70 u71 u72 u73 u74 u75 u76 u77 u78 u79 u80 u81 u82 u83 u84 u85 u86 u87 u88 u89 u90 u91 u92 u93 u94 u95 u96 u97 u98 u99 u100 u101 u102 u103 u104 u105 u106 u107 u108 u109 u110 u111 u112 u113 u114 u115 u116 u117 u118 u119 u120 u121 u122 : Value) (w' : World), u4 = .bool true → Mod no W w' → Q .ret ⟨List.toArray ((.pointer lv) :: (.pointer (some ⟨r, 0, none⟩)) :: d2 :: d3 :: u4 :: (.slice Aa n ca) :: (.slice Ab n cb) :: d7 :: d8 :: (.slice Ag m cg) :: d10 :: u11 :: d12 :: d13 :: d14 :: d15 :: d16 :: d17 :: d18 :: d19 :: d20 :: d21 :: d22 :: d23 :: d24 :: d25 :: d26 :: d27 :: d28 :: d29 :: d30 :: d31 :: d32 :: d33 :: d34 :: d35 :: d36 :: d37 :: d38 :: d39 :: d40 :: d41 :: d42 :: d43 :: d44 :: d45 :: d46 :: d47 :: d48 :: d49 :: d50 :: d51 :: d52 :: d53 :: d54 :: d55 :: d56 :: d57 :: d58 :: d59 :: d60 :: d61 :: d62 :: d63 :: d64 :: d65 :: d66 :: d67 :: d68 :: d69 :: u70 :: u71 :: u72 :: u73 :: u74 :: u75 :: u76 :: u77 :: u78 :: u79 :: u80 :: u81 :: u82 :: u83 :: u84 :: u85 :: u86 :: u87 :: u88 :: u89 :: u90 :: u91 :: u92 :: u93 :: u94 :: u95 :: u96 :: u97 :: u98 :: u99 :: u100 :: u101 :: u102 :: u103 :: u104 :: u105 :: u106 :: u107 :: u108 :: u109 :: u110 :: u111 :: u112 :: u113 :: u114 :: u115 :: u116 :: u117 :: u118 :: u119 :: u120 :: u121 :: u122 :: []), []⟩ w') :
    Code.wp Try.prog w7C Q ⟨List.toArray ((.pointer lv) :: (.pointer (some ⟨r, 0, none⟩)) :: d2 :: d3 :: d4 :: (.slice Aa n ca) :: (.slice Ab n cb) :: d7 :: d8 :: (.slice Ag m cg) :: d10 :: d11 :: d12 :: d13 :: d14 :: d15 :: d16 :: d17 :: d18 :: d19 :: d20 :: d21 :: d22 :: d23 :: d24 :: d25 :: d26 :: d27 :: d28 :: d29 :: d30 :: d31 :: d32 :: d33 :: d34 :: d35 :: d36 :: d37 :: d38 :: d39 :: d40 :: d41 :: d42 :: d43 :: d44 :: d45 :: d46 :: d47 :: d48 :: d49 :: d50 :: d51 :: d52 :: d53 :: d54 :: d55 :: d56 :: d57 :: d58 :: d59 :: d60 :: d61 :: d62 :: d63 :: d64 :: d65 :: d66 :: d67 :: d68 :: d69 :: d70 :: d71 :: d72 :: d73 :: d74 :: d75 :: d76 :: d77 :: d78 :: d79 :: d80 :: d81 :: d82 :: d83 :: d84 :: d85 :: d86 :: d87 :: d88 :: d89 :: d90 :: d91 :: d92 :: d93 :: d94 :: d95 :: d96 :: d97 :: d98 :: d99 :: d100 :: d101 :: d102 :: d103 :: d104 :: d105 :: d106 :: d107 :: d108 :: d109 :: d110 :: d111 :: d112 :: d113 :: d114 :: d115 :: d116 :: d117 :: d118 :: d119 :: d120 :: d121 :: d122 :: []), []⟩ w0 := by
  have HLE := Lib.hid hexit
  have H0 := Lib.hid (And.intro h hM)
  have H1 := Lib.hid (And.intro hN (And.intro hca (And.intro hcb (And.intro hA (And.intro hB hm)))))
  clear hexit h hM hN hca hcb hA hB hm
  show Code.wp Try.prog (Code.seq (sL w7C) w8C) Q _ _
  refine wp_seq_k fun K1 hK1 => ?_
  have HK1 := Lib.hid hK1
  clear hK1
  conv => arg 2; whnf
  go_wp2_with fail
  go_loopw [11] (NilJ w0 m) (fun i _ => m - (intOf i).toNat)
  case atStart => exact ⟨0, Nat.zero_le _, rfl, rfl⟩
  case round =>
    obtain ⟨j, hj, rfl, rfl⟩ := hrel
    by_cases hjm : j < m
    · obtain ⟨gg, rfl, _, _⟩ := H1.out.1.base (by omega)
      have hmm := H1.out.2.2.2.2.2
      have hj1 : (j : Int) < (m : Int) := by omega
      have hj0 : (0 : Int) ≤ (j : Int) := by omega
      have cg0 := H1.out.1.range (Nat.le_refl _) hjm 32 _ (mk_next _)
      have hw64 : wrap64 ((j : Int) + 1) = (j : Int) + 1 := IntWalk.wrap64_in _ (by omega)
      have hwa : wrap64 (-1 - (j : Int)) = -1 - (j : Int) := IntWalk.wrap64_in _ (by omega)
      have hwb : wrap64 (-100000 - (j : Int)) = -100000 - (j : Int) := IntWalk.wrap64_in _ (by omega)
      have HJ := Lib.hid hjm
      by_cases hjn : j < n
      · obtain rfl := H1.out.2.2.2.1 (by omega)
        obtain rfl := H1.out.2.2.2.2.1 (by omega)
        have ca0 := H1.out.2.1.next hjn
        have cb0 := H1.out.2.2.1.next hjn
        have hj2 : (j : Int) < (n : Int) := by omega
        clear hj hmm hjn hjm
        go_wp2_with fail
        go_roundw
        case rel => exact ⟨j + 1, HJ.out, by go_num, rfl⟩
        case measure =>
          try rw [hw64]
          clear hw64 hwa hwb
          have := HJ.out
          show m - ((j : Int) + 1).toNat < m - ((j : Int)).toNat
          omega
      · have hj2 : ¬ (j : Int) < (n : Int) := by omega
        clear hj hmm hjn hjm
        go_wp2_with fail
        go_roundw
        case rel => exact ⟨j + 1, HJ.out, by go_num, rfl⟩
        case measure =>
          try rw [hw64]
          clear hw64 hwa hwb
          have := HJ.out
          show m - ((j : Int) + 1).toNat < m - ((j : Int)).toNat
          omega
    · obtain rfl : j = m := by omega
      have hj1 : ¬ (j : Int) < (j : Int) := by omega
      clear hj hjm
      go_wp2_with fail
      refine HK1.out _ _ ?_
      clear HK1
      refine w8_any H0.out.1 H0.out.2 _ _ _ _ _ _ _ _ _ _ _ _ _ _ _ _ _ _ _ _ _ _ _ _ _ _ _ _ _ _ _ _ _ _ _ _ _ _ _ _ _ _ _ _ _ _ _ _ _ _ _ _ _ _ _ _ _ _ _ _ _ _ _ _ _ _ _ _ _ _ _ _ _ _ _ _ _ _ _ _ _ _ _ _ _ _ _ _ _ _ _ _ _ _ _ _ _ _ _ _ _ _ _ _ _ _ _ _ _ _ _ _ _ _ _ _ _ _ _ _ ?_
      intro u4 u116 u117 u118 u119 u120 u121 u122 w' h M
      exact HLE.out _ _ _ _ _ _ _ _ _ _ _ _ _ _ _ _ _ _ _ _ _ _ _ _ _ _ _ _ _ _ _ _ _ _ _ _ _ _ _ _ _ _ _ _ _ _ _ _ _ _ _ _ _ _ _ _ h M

def I3 (W : World) (base n ga gb : Nat) (gv i : Value) (wr : World) : Prop := ∃ j : Nat, j ≤ 70 ∧ i = .int .i64 (j : Int) ∧ Num wr base gv (n + j) (n + j) (-1) ∧ Cel wr ga n (-1) ∧ Cel wr gb n (-100000) ∧ (∀ q : Nat, q < n → gv.ownBlock ≠ some gb) ∧ base ≤ wr.heap.size ∧ Mod no W wr
set_option maxRecDepth 100000 in
set_option maxHeartbeats 4000000 in
theorem w5_any {W w0 : World} {lv : Option Addr} {live : Bool} {lg g gr r n ca cb ga gb base : Nat} {A Aa Ab : Option Addr} {L : List (List Value)} (h : Two W lv live lg g gr r A L) (hM : Mod no W w0) (hW : W.heap.size ≤ base) (hbs : base ≤ w0.heap.size)
    (hN : Num w0 base (.slice Aa n ca) n n (-1)) (hca : Cel w0 ga n (-1)) (hcb : Cel w0 gb n (-100000)) (hA : 0 < n → Aa = some ⟨ga, 0, none⟩) (hB : 0 < n → Ab = some ⟨gb, 0, none⟩) (hab : ga ≠ gb) (hn : n ≤ 1048500)
    (d2 d3 d4 d7 d8 d9 d10 d11 d12 d13 d14 d15 d16 d17 d18 d19 d20 d21 d22 d23 d24 d25 d26 d27 d28 d29 d30 d31 d32 d33 d34 d35 d36 d37 d38 d39 d40 d41 d42 d43 d44 d45 d46 d47 d48 d49 d50 d51 d52 d53 d54 d55 d56 d57 d58 d59 d60 d61 d62 d63 d64 d65 d66 d67 d68 d69 d70 d71 d72 d73 d74 d75 d76 d77 d78 d79 d80 d81 d82 d83 d84 d85 d86 d87 d88 d89 d90 d91 d92 d93 d94 d95 d96 d97 d98 d99 d100 d101 d102 d103 d104 d105 d106 d107 d108 d109 d110 d111 d112 d113 d114 d115 d116 d117 d118 d119 d120 d121 d122 : Value) (Q : Exit → Act → World → Prop)
    (hexit : ∀ (u4 u9 u10 u11 u56 u57 u58 u59 u60 u61 u62 u63 u64 u65 u66 u67 u68 u69 u70 u71 u72 u73 u74 u75 u76 u77 u78 u79 u80 u81 u82 u83 u84 u85 u86 u87 u88 u89 u90 u91 u92 u93 u94 u95 u96 u97 u98 u99 u100 u101 u102 u103 u104 u105 u106 u107 u108 u109 u110 u111 u112 u113 u114 u115 u116 u117 u118 u119 u120 u121 u122 : Value) (w' : World), u4 = .bool true → Mod no W w' → Q .ret ⟨List.toArray ((.pointer lv) :: (.pointer (some ⟨r, 0, none⟩)) :: d2 :: d3 :: u4 :: (.slice Aa n ca) :: (.slice Ab n cb) :: d7 :: d8 :: u9 :: u10 :: u11 :: d12 :: d13 :: d14 :: d15 :: d16 :: d17 :: d18 :: d19 :: d20 :: d21 :: d22 :: d23 :: d24 :: d25 :: d26 :: d27 :: d28 :: d29 :: d30 :: d31 :: d32 :: d33 :: d34 :: d35 :: d36 :: d37 :: d38 :: d39 :: d40 :: d41 :: d42 :: d43 :: d44 :: d45 :: d46 :: d47 :: d48 :: d49 :: d50 :: d51 :: d52 :: d53 :: d54 :: d55 :: u56 :: u57 :: u58 :: u59 :: u60 :: u61 :: u62 :: u63 :: u64 :: u65 :: u66 :: u67 :: u68 :: u69 :: u70 :: u71 :: u72 :: u73 :: u74 :: u75 :: u76 :: u77 :: u78 :: u79 :: u80 :: u81 :: u82 :: u83 :: u84 :: u85 :: u86 :: u87 :: u88 :: u89 :: u90 :: u91 :: u92 :: u93 :: u94 :: u95 :: u96 :: u97 :: u98 :: u99 :: u100 :: u101 :: u102 :: u103 :: u104 :: u105 :: u106 :: u107 :: u108 :: u109 :: u110 :: u111 :: u112 :: u113 :: u114 :: u115 :: u116 :: u117 :: u118 :: u119 :: u120 :: u121 :: u122 :: []), []⟩ w') :
    Code.wp Try.prog w5C Q ⟨List.toArray ((.pointer lv) :: (.pointer (some ⟨r, 0, none⟩)) :: d2 :: d3 :: d4 :: (.slice Aa n ca) :: (.slice Ab n cb) :: d7 :: d8 :: d9 :: d10 :: d11 :: d12 :: d13 :: d14 :: d15 :: d16 :: d17 :: d18 :: d19 :: d20 :: d21 :: d22 :: d23 :: d24 :: d25 :: d26 :: d27 :: d28 :: d29 :: d30 :: d31 :: d32 :: d33 :: d34 :: d35 :: d36 :: d37 :: d38 :: d39 :: d40 :: d41 :: d42 :: d43 :: d44 :: d45 :: d46 :: d47 :: d48 :: d49 :: d50 :: d51 :: d52 :: d53 :: d54 :: d55 :: d56 :: d57 :: d58 :: d59 :: d60 :: d61 :: d62 :: d63 :: d64 :: d65 :: d66 :: d67 :: d68 :: d69 :: d70 :: d71 :: d72 :: d73 :: d74 :: d75 :: d76 :: d77 :: d78 :: d79 :: d80 :: d81 :: d82 :: d83 :: d84 :: d85 :: d86 :: d87 :: d88 :: d89 :: d90 :: d91 :: d92 :: d93 :: d94 :: d95 :: d96 :: d97 :: d98 :: d99 :: d100 :: d101 :: d102 :: d103 :: d104 :: d105 :: d106 :: d107 :: d108 :: d109 :: d110 :: d111 :: d112 :: d113 :: d114 :: d115 :: d116 :: d117 :: d118 :: d119 :: d120 :: d121 :: d122 :: []), []⟩ w0 := by
  have HLE := Lib.hid hexit
  have H0 := Lib.hid (And.intro h (And.intro hM (And.intro hW hbs)))
  have hgo : ∀ q : Nat, q < n → (Value.slice Aa n ca).ownBlock ≠ some gb := fun q hq e => by
    rw [hA (by omega)] at e
    have e : some ga = some gb := e
    injection e with e
    exact hab e
  have H1 := Lib.hid (And.intro hN (And.intro hca (And.intro hcb (And.intro hA (And.intro hB (And.intro hn hgo))))))
  clear hexit h hM hN hca hcb hA hB hn hgo hW hbs
  show Code.wp Try.prog (Code.seq (sL w5C) (Code.seq (sL w6C) w7C)) Q _ _
  refine wp_seq_k fun K0 hK0 => ?_
  have HK0 := Lib.hid hK0
  clear hK0
  conv => arg 2; whnf
  go_wp2_with fail
  refine HK0.out _ _ ?_
  clear HK0
  refine wp_seq_k fun K1 hK1 => ?_
  have HK1 := Lib.hid hK1
  clear hK1
  conv => arg 2; whnf
  go_wp2_with fail
  go_loopw [9, 10] (I3 W base n ga gb) (fun _ i _ => 70 - (intOf i).toNat)
  case atStart => exact ⟨0, by omega, rfl, H1.out.1, H1.out.2.1, H1.out.2.2.1, H1.out.2.2.2.2.2.2, H0.out.2.2.2, H0.out.2.1⟩
  case round =>
    obtain ⟨j, hj, rfl, hN, hca, hcb, hgo, hbs, M⟩ := hrel
    by_cases hj7 : j < 70
    · have hnn := H1.out.2.2.2.2.2.1
      have hj1 : (j : Int) < 70 := by omega
      have hw64 : wrap64 ((j : Int) + 1) = (j : Int) + 1 := IntWalk.wrap64_in _ (by omega)
      have hwn : wrap64 (-1 - (n : Int)) = -1 - (n : Int) := IntWalk.wrap64_in _ (by omega)
      obtain ⟨q, hq⟩ : ∃ q : Int, q = -1 - ((n + j : Nat) : Int) := ⟨_, rfl⟩
      have hwj : wrap64 (-1 - (n : Int) - (j : Int)) = q := by rw [IntWalk.wrap64_in _ (by omega)]; omega
      have m4 : Mod no wr (wr.alloc (.cells (mk q).toArray 89)) := (Mod.refl no wr).alloc _
      have hbk : Blk (wr.alloc (.cells (mk q).toArray 89)) wr.heap.size 89 (mk (-1 - ((n + j : Nat) : Int))).toArray := by
        rw [← hq]
        exact Blk.new wr 89 (mk q).toArray
      have hs4 := m4.size
      have H4 := Lib.hid (And.intro (hN.mod_no m4) (And.intro hbk (And.intro (hca.mod m4 (fun _ _ c => c)) (And.intro (hcb.mod m4 (fun _ _ c => c)) (And.intro hgo (And.intro (M.and_then m4) (show base ≤ (wr.alloc (.cells (mk q).toArray 89)).heap.size by omega)))))))
      have HJ := Lib.hid (show j + 1 ≤ 70 ∧ n + j ≤ 1048600 by omega)
      clear hj hj7 hN hca hcb hgo hbs M m4 hbk hs4 hq hnn
      go_wp2_with (first
        | (refine wpList_mk rfl (.tmp 66) rfl q rfl ?_)
        | (refine wpList_one rfl (.tmp 67) rfl (mk q) rfl (mk_ele q) ?_
           generalize wr.alloc (.cells (mk q).toArray 89) = w4 at *)
        | (refine wpList_appK rfl (.tmp 61) (.tmp 68) rfl base (n + j) wr.heap.size u9 (-1) rfl rfl H4.out.1 H4.out.2.1 (by have := HJ.out.2; omega) H4.out.2.2.2.2.2.2 ga gb n (-100000) H4.out.2.2.1 H4.out.2.2.2.1 (by omega) H4.out.2.2.2.2.1 ?_
           intro v' w5 hN5 hca5 hcb5 hgb5 hm5
           have H5 := Lib.hid (And.intro hN5 (And.intro hca5 (And.intro hcb5 (And.intro hgb5 (hm5 _ H0.out.2.2.1 H4.out.2.2.2.2.2.1)))))
           clear hN5 hca5 hcb5 hgb5 hm5))
      go_roundw
      case rel =>
        refine ⟨j + 1, HJ.out.1, by go_num, H5.out.1, H5.out.2.1, H5.out.2.2.1, H5.out.2.2.2.1, ?_, H5.out.2.2.2.2⟩
        obtain ⟨gg, cc, _, hg1, hg2⟩ := H5.out.1.head (by omega)
        omega
      case measure =>
        try rw [hw64]
        clear hw64 hwn hwj
        have := HJ.out.1
        show 70 - ((j : Int) + 1).toNat < 70 - ((j : Int)).toNat
        omega
    · obtain rfl : j = 70 := by omega
      have hj1 : ¬ (((70 : Nat) : Int)) < 70 := by omega
      obtain ⟨Ag, cg, rfl⟩ := hN.form
      have H4 := Lib.hid (And.intro hN (And.intro hca (And.intro hcb M)))
      clear hj hj7 hN hca hcb hgo hbs M
      go_wp2_with fail
      refine HK1.out _ _ ?_
      clear HK1
      refine w7_any (m := n + 70) (H0.out.1.mod_no H4.out.2.2.2) H4.out.2.2.2 H4.out.1 H4.out.2.1 H4.out.2.2.1 H1.out.2.2.2.1 H1.out.2.2.2.2.1 (by have := H1.out.2.2.2.2.2.1; omega) _ _ _ _ _ _ _ _ _ _ _ _ _ _ _ _ _ _ _ _ _ _ _ _ _ _ _ _ _ _ _ _ _ _ _ _ _ _ _ _ _ _ _ _ _ _ _ _ _ _ _ _ _ _ _ _ _ _ _ _ _ _ _ _ _ _ _ _ _ _ _ _ _ _ _ _ _ _ _ _ _ _ _ _ _ _ _ _ _ _ _ _ _ _ _ _ _ _ _ _ _ _ _ _ _ _ _ _ _ _ _ _ _ _ _ _ _ _ _ ?_
      intro u4 u11 u70 u71 u72 u73 u74 u75 u76 u77 u78 u79 u80 u81 u82 u83 u84 u85 u86 u87 u88 u89 u90 u91 u92 u93 u94 u95 u96 u97 u98 u99 u100 u101 u102 u103 u104 u105 u106 u107 u108 u109 u110 u111 u112 u113 u114 u115 u116 u117 u118 u119 u120 u121 u122 w' h M
      exact HLE.out _ _ _ _ _ _ _ _ _ _ _ _ _ _ _ _ _ _ _ _ _ _ _ _ _ _ _ _ _ _ _ _ _ _ _ _ _ _ _ _ _ _ _ _ _ _ _ _ _ _ _ _ _ _ _ _ _ _ _ _ _ _ _ _ _ _ _ _ _ _ _ _ h M

end Go.Proofs.Ytknbehjhaaidoaa.DG
