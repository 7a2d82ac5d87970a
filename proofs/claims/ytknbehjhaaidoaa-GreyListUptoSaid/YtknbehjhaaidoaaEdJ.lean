/- The law's own: what it lays over what it was told, and the whole (printed by greyown4.py). -/
import Derived.Test.YtknbehjhaaidoaaEdI
namespace Go.Proofs.Ytknbehjhaaidoaa.DG
open Go.RowKit Mem DQ
set_option linter.unusedVariables false
set_option linter.unusedSimpArgs false

theorem Num.ge {w : World} {base n k g : Nat} {v : Value} {z : Int} (h : Num w base v n k z) (e : v.ownBlock = some g) : base ≤ g ∧ g < w.heap.size := by
  obtain ⟨L, rfl, ho, _⟩ := h
  rcases ho.2 with ⟨h1, _⟩ | ⟨g', cap, cur, h1, h2, h3, _⟩
  · rw [h1] at e; cases e
  · rw [h1] at e
    have e : some g' = some g := e
    injection e with e
    subst e
    exact ⟨h2, Blk.lt (show Blk w g' 89 cur from h3)⟩

def I2 (W : World) (ba bb n : Nat) (va vb i : Value) (wr : World) : Prop := ∃ k : Nat, k ≤ n ∧ i = .int .i64 (k : Int) ∧ Num wr bb vb n k (-100000) ∧ Num wr ba va n n (-1) ∧ bb ≤ wr.heap.size ∧ Mod no W wr
set_option maxRecDepth 100000 in
set_option maxHeartbeats 4000000 in
theorem w4_any {W w0 : World} {lv : Option Addr} {live : Bool} {lg g gr r n ca cb ba bb : Nat} {A Aa Ab : Option Addr} {L : List (List Value)} (h : Two W lv live lg g gr r A L) (hM : Mod no W w0) (hW : W.heap.size ≤ ba) (hbb : ba ≤ bb) (hbs : bb ≤ w0.heap.size)
    (hN : Num w0 ba (.slice Aa n ca) n n (-1)) (hN2 : Num w0 bb (.slice Ab n cb) n 0 (-100000)) (hlt : ∀ g, (Value.slice Aa n ca).ownBlock = some g → g < bb) (hn : n ≤ 1048500)
    (d2 d3 d4 d7 d8 d9 d10 d11 d12 d13 d14 d15 d16 d17 d18 d19 d20 d21 d22 d23 d24 d25 d26 d27 d28 d29 d30 d31 d32 d33 d34 d35 d36 d37 d38 d39 d40 d41 d42 d43 d44 d45 d46 d47 d48 d49 d50 d51 d52 d53 d54 d55 d56 d57 d58 d59 d60 d61 d62 d63 d64 d65 d66 d67 d68 d69 d70 d71 d72 d73 d74 d75 d76 d77 d78 d79 d80 d81 d82 d83 d84 d85 d86 d87 d88 d89 d90 d91 d92 d93 d94 d95 d96 d97 d98 d99 d100 d101 d102 d103 d104 d105 d106 d107 d108 d109 d110 d111 d112 d113 d114 d115 d116 d117 d118 d119 d120 d121 d122 : Value) (Q : Exit → Act → World → Prop)
    (hexit : ∀ (u4 u8 u9 u10 u11 u44 u45 u46 u47 u48 u49 u50 u51 u52 u53 u54 u55 u56 u57 u58 u59 u60 u61 u62 u63 u64 u65 u66 u67 u68 u69 u70 u71 u72 u73 u74 u75 u76 u77 u78 u79 u80 u81 u82 u83 u84 u85 u86 u87 u88 u89 u90 u91 u92 u93 u94 u95 u96 u97 u98 u99 u100 u101 u102 u103 u104 u105 u106 u107 u108 u109 u110 u111 u112 u113 u114 u115 u116 u117 u118 u119 u120 u121 u122 : Value) (w' : World), u4 = .bool true → Mod no W w' → Q .ret ⟨List.toArray ((.pointer lv) :: (.pointer (some ⟨r, 0, none⟩)) :: d2 :: d3 :: u4 :: (.slice Aa n ca) :: (.slice Ab n cb) :: d7 :: u8 :: u9 :: u10 :: u11 :: d12 :: d13 :: d14 :: d15 :: d16 :: d17 :: d18 :: d19 :: d20 :: d21 :: d22 :: d23 :: d24 :: d25 :: d26 :: d27 :: d28 :: d29 :: d30 :: d31 :: d32 :: d33 :: d34 :: d35 :: d36 :: d37 :: d38 :: d39 :: d40 :: d41 :: d42 :: d43 :: u44 :: u45 :: u46 :: u47 :: u48 :: u49 :: u50 :: u51 :: u52 :: u53 :: u54 :: u55 :: u56 :: u57 :: u58 :: u59 :: u60 :: u61 :: u62 :: u63 :: u64 :: u65 :: u66 :: u67 :: u68 :: u69 :: u70 :: u71 :: u72 :: u73 :: u74 :: u75 :: u76 :: u77 :: u78 :: u79 :: u80 :: u81 :: u82 :: u83 :: u84 :: u85 :: u86 :: u87 :: u88 :: u89 :: u90 :: u91 :: u92 :: u93 :: u94 :: u95 :: u96 :: u97 :: u98 :: u99 :: u100 :: u101 :: u102 :: u103 :: u104 :: u105 :: u106 :: u107 :: u108 :: u109 :: u110 :: u111 :: u112 :: u113 :: u114 :: u115 :: u116 :: u117 :: u118 :: u119 :: u120 :: u121 :: u122 :: []), []⟩ w') :
    Code.wp Try.prog w4C Q ⟨List.toArray ((.pointer lv) :: (.pointer (some ⟨r, 0, none⟩)) :: d2 :: d3 :: d4 :: (.slice Aa n ca) :: (.slice Ab n cb) :: d7 :: d8 :: d9 :: d10 :: d11 :: d12 :: d13 :: d14 :: d15 :: d16 :: d17 :: d18 :: d19 :: d20 :: d21 :: d22 :: d23 :: d24 :: d25 :: d26 :: d27 :: d28 :: d29 :: d30 :: d31 :: d32 :: d33 :: d34 :: d35 :: d36 :: d37 :: d38 :: d39 :: d40 :: d41 :: d42 :: d43 :: d44 :: d45 :: d46 :: d47 :: d48 :: d49 :: d50 :: d51 :: d52 :: d53 :: d54 :: d55 :: d56 :: d57 :: d58 :: d59 :: d60 :: d61 :: d62 :: d63 :: d64 :: d65 :: d66 :: d67 :: d68 :: d69 :: d70 :: d71 :: d72 :: d73 :: d74 :: d75 :: d76 :: d77 :: d78 :: d79 :: d80 :: d81 :: d82 :: d83 :: d84 :: d85 :: d86 :: d87 :: d88 :: d89 :: d90 :: d91 :: d92 :: d93 :: d94 :: d95 :: d96 :: d97 :: d98 :: d99 :: d100 :: d101 :: d102 :: d103 :: d104 :: d105 :: d106 :: d107 :: d108 :: d109 :: d110 :: d111 :: d112 :: d113 :: d114 :: d115 :: d116 :: d117 :: d118 :: d119 :: d120 :: d121 :: d122 :: []), []⟩ w0 := by
  have HLE := Lib.hid hexit
  have H0 := Lib.hid (And.intro h (And.intro hM (And.intro hW (And.intro hbb hbs))))
  have H1 := Lib.hid (And.intro hN (And.intro hN2 (And.intro hlt hn)))
  clear hexit h hM hN hN2 hlt hn hW hbs hbb
  show Code.wp Try.prog (Code.seq (sL w4C) w5C) Q _ _
  refine wp_seq_k fun K1 hK1 => ?_
  have HK1 := Lib.hid hK1
  clear hK1
  conv => arg 2; whnf
  go_wp2_with fail
  go_loopw [8] (I2 W ba bb n (.slice Aa n ca) (.slice Ab n cb)) (fun i _ => n - (intOf i).toNat)
  case atStart => exact ⟨0, by omega, rfl, H1.out.2.1, H1.out.1, H0.out.2.2.2.2, H0.out.2.1⟩
  case round =>
    obtain ⟨k, hk, rfl, hN2, hN1, hbs, M⟩ := hrel
    by_cases hkn : k < n
    · obtain ⟨gb, rfl, hb1, hb2⟩ := hN2.base (by omega)
      have hnn := H1.out.2.2.2
      have hj1 : (k : Int) < (n : Int) := by omega
      have hj0 : (0 : Int) ≤ (k : Int) := by omega
      have hw64 : wrap64 ((k : Int) + 1) = (k : Int) + 1 := IntWalk.wrap64_in _ (by omega)
      obtain ⟨q, hq⟩ : ∃ q : Int, q = -100000 - (k : Int) := ⟨_, rfl⟩
      have hwk : wrap64 (-100000 - (k : Int)) = q := by rw [IntWalk.wrap64_in _ (by omega)]; exact hq.symm
      obtain ⟨hP, hT⟩ := hN2.put hkn
      rw [← hq] at hP
      have mS : Mod (one gb) wr (wr.setCells gb (k * 33) (mk q)) := mod_setCells (S := one gb) (show one gb gb from rfl) (mk q) _ _ (Mod.refl _ _)
      have hN1' := hN1.blk mS (fun g e c => by have c : g = gb := c; have := H1.out.2.2.1 g e; omega)
      have hM' : Mod no W (wr.setCells gb (k * 33) (mk q)) := M.trans mS fun b hb c => by
        have c : b = gb := c
        have := H0.out.2.2.1
        have := H0.out.2.2.2.1
        omega
      have H4 := Lib.hid (And.intro hP (And.intro hN1' (And.intro (show bb ≤ (wr.setCells gb (k * 33) (mk q)).heap.size by have := mS.size; omega) hM')))
      have HT := Lib.hid hT
      have HJ := Lib.hid (show k + 1 ≤ n ∧ k < n by omega)
      clear hk hN2 hN1 hbs M hP hT mS hN1' hM' hq hnn hb1 hb2
      clear hkn
      have hkn := HJ.out.2
      go_wp2_with (first
        | (refine wpList_mk rfl (.tmp 53) rfl q rfl ?_)
        | (refine wpList_store_mid rfl 89 (.tmp 55) (.tmp 54) rfl gb (k * 33) (mk q).toArray rfl rfl (by rw [ele_size (mk_ele q)]; exact HT.out) (ele_info (mk_ele q)) (ele_one (mk_ele q)) ?_
           simp only [List.toList_toArray]
           clear HT
           generalize wr.setCells gb (k * 33) (mk q) = w5 at *))
      go_roundw
      case rel => exact ⟨k + 1, HJ.out.1, by go_num, H4.out⟩
      case measure =>
        try rw [hw64]
        clear hw64 hwk
        have := HJ.out.1
        show n - ((k : Int) + 1).toNat < n - ((k : Int)).toNat
        omega
    · obtain rfl : k = n := by omega
      have hj1 : ¬ (k : Int) < (k : Int) := by omega
      obtain ⟨ga, gb, hA, hB, hab, hca, hcb⟩ : ∃ ga gb, (0 < k → Aa = some ⟨ga, 0, none⟩) ∧ (0 < k → Ab = some ⟨gb, 0, none⟩) ∧ ga ≠ gb ∧ Cel wr ga k (-1) ∧ Cel wr gb k (-100000) := by
        by_cases hk0 : 0 < k
        · obtain ⟨ga, rfl, _, _⟩ := hN1.base hk0
          obtain ⟨gb, rfl, hb1, _⟩ := hN2.base hk0
          exact ⟨ga, gb, fun _ => rfl, fun _ => rfl, by have := H1.out.2.2.1 ga rfl; omega, hN1.cel, hN2.cel⟩
        · exact ⟨0, 1, fun h => absurd h hk0, fun h => absurd h hk0, by decide, fun j hj => absurd hj (by omega), fun j hj => absurd hj (by omega)⟩
      have H4 := Lib.hid (And.intro hN1 (And.intro hca (And.intro hcb (And.intro hA (And.intro hB (And.intro hab (And.intro M (show ba ≤ wr.heap.size by have := H0.out.2.2.2.1; omega))))))))
      clear hk hkn hN2 hN1 hbs M hA hB hab hca hcb
      go_wp2_with fail
      refine HK1.out _ _ ?_
      clear HK1
      refine w5_any H0.out.1 H4.out.2.2.2.2.2.2.1 H0.out.2.2.1 H4.out.2.2.2.2.2.2.2 H4.out.1 H4.out.2.1 H4.out.2.2.1 H4.out.2.2.2.1 H4.out.2.2.2.2.1 H4.out.2.2.2.2.2.1 H1.out.2.2.2 _ _ _ _ _ _ _ _ _ _ _ _ _ _ _ _ _ _ _ _ _ _ _ _ _ _ _ _ _ _ _ _ _ _ _ _ _ _ _ _ _ _ _ _ _ _ _ _ _ _ _ _ _ _ _ _ _ _ _ _ _ _ _ _ _ _ _ _ _ _ _ _ _ _ _ _ _ _ _ _ _ _ _ _ _ _ _ _ _ _ _ _ _ _ _ _ _ _ _ _ _ _ _ _ _ _ _ _ _ _ _ _ _ _ _ _ _ _ _ _ ?_
      intro u4 u9 u10 u11 u56 u57 u58 u59 u60 u61 u62 u63 u64 u65 u66 u67 u68 u69 u70 u71 u72 u73 u74 u75 u76 u77 u78 u79 u80 u81 u82 u83 u84 u85 u86 u87 u88 u89 u90 u91 u92 u93 u94 u95 u96 u97 u98 u99 u100 u101 u102 u103 u104 u105 u106 u107 u108 u109 u110 u111 u112 u113 u114 u115 u116 u117 u118 u119 u120 u121 u122 w' h M
      exact HLE.out _ _ _ _ _ _ _ _ _ _ _ _ _ _ _ _ _ _ _ _ _ _ _ _ _ _ _ _ _ _ _ _ _ _ _ _ _ _ _ _ _ _ _ _ _ _ _ _ _ _ _ _ _ _ _ _ _ _ _ _ _ _ _ _ _ _ _ _ _ _ _ _ _ _ _ _ _ _ _ _ _ _ _ _ _ h M

def I1 (W : World) (ba bb n : Nat) (va vb i : Value) (wr : World) : Prop := ∃ k : Nat, k ≤ n ∧ i = .int .i64 (k : Int) ∧ Num wr ba va n k (-1) ∧ Num wr bb vb n 0 (-100000) ∧ bb ≤ wr.heap.size ∧ Mod no W wr
set_option maxRecDepth 100000 in
set_option maxHeartbeats 4000000 in
theorem w3_any {W w0 : World} {lv : Option Addr} {live : Bool} {lg g gr r n ca cb ba bb : Nat} {A Aa Ab : Option Addr} {L : List (List Value)} (h : Two W lv live lg g gr r A L) (hM : Mod no W w0) (hW : W.heap.size ≤ ba) (hbb : ba ≤ bb) (hbs : bb ≤ w0.heap.size)
    (hN : Num w0 ba (.slice Aa n ca) n 0 (-1)) (hN2 : Num w0 bb (.slice Ab n cb) n 0 (-100000)) (hlt : ∀ g, (Value.slice Aa n ca).ownBlock = some g → g < bb) (hn : n ≤ 1048500)
    (d2 d3 d4 d7 d8 d9 d10 d11 d12 d13 d14 d15 d16 d17 d18 d19 d20 d21 d22 d23 d24 d25 d26 d27 d28 d29 d30 d31 d32 d33 d34 d35 d36 d37 d38 d39 d40 d41 d42 d43 d44 d45 d46 d47 d48 d49 d50 d51 d52 d53 d54 d55 d56 d57 d58 d59 d60 d61 d62 d63 d64 d65 d66 d67 d68 d69 d70 d71 d72 d73 d74 d75 d76 d77 d78 d79 d80 d81 d82 d83 d84 d85 d86 d87 d88 d89 d90 d91 d92 d93 d94 d95 d96 d97 d98 d99 d100 d101 d102 d103 d104 d105 d106 d107 d108 d109 d110 d111 d112 d113 d114 d115 d116 d117 d118 d119 d120 d121 d122 : Value) (Q : Exit → Act → World → Prop)
    (hexit : ∀ (u4 u7 u8 u9 u10 u11 u32 u33 u34 u35 u36 u37 u38 u39 u40 u41 u42 u43 u44 u45 u46 u47 u48 u49 u50 u51 u52 u53 u54 u55 u56 u57 u58 u59 u60 u61 u62 u63 u64 u65 u66 u67 u68 u69 u70 u71 u72 u73 u74 u75 u76 u77 u78 u79 u80 u81 u82 u83 u84 u85 u86 u87 u88 u89 u90 u91 u92 u93 u94 u95 u96 u97 u98 u99 u100 u101 u102 u103 u104 u105 u106 u107 u108 u109 u110 u111 u112 u113 u114 u115 u116 u117 u118 u119 u120 u121 u122 : Value) (w' : World), u4 = .bool true → Mod no W w' → Q .ret ⟨List.toArray ((.pointer lv) :: (.pointer (some ⟨r, 0, none⟩)) :: d2 :: d3 :: u4 :: (.slice Aa n ca) :: (.slice Ab n cb) :: u7 :: u8 :: u9 :: u10 :: u11 :: d12 :: d13 :: d14 :: d15 :: d16 :: d17 :: d18 :: d19 :: d20 :: d21 :: d22 :: d23 :: d24 :: d25 :: d26 :: d27 :: d28 :: d29 :: d30 :: d31 :: u32 :: u33 :: u34 :: u35 :: u36 :: u37 :: u38 :: u39 :: u40 :: u41 :: u42 :: u43 :: u44 :: u45 :: u46 :: u47 :: u48 :: u49 :: u50 :: u51 :: u52 :: u53 :: u54 :: u55 :: u56 :: u57 :: u58 :: u59 :: u60 :: u61 :: u62 :: u63 :: u64 :: u65 :: u66 :: u67 :: u68 :: u69 :: u70 :: u71 :: u72 :: u73 :: u74 :: u75 :: u76 :: u77 :: u78 :: u79 :: u80 :: u81 :: u82 :: u83 :: u84 :: u85 :: u86 :: u87 :: u88 :: u89 :: u90 :: u91 :: u92 :: u93 :: u94 :: u95 :: u96 :: u97 :: u98 :: u99 :: u100 :: u101 :: u102 :: u103 :: u104 :: u105 :: u106 :: u107 :: u108 :: u109 :: u110 :: u111 :: u112 :: u113 :: u114 :: u115 :: u116 :: u117 :: u118 :: u119 :: u120 :: u121 :: u122 :: []), []⟩ w') :
    Code.wp Try.prog w3C Q ⟨List.toArray ((.pointer lv) :: (.pointer (some ⟨r, 0, none⟩)) :: d2 :: d3 :: d4 :: (.slice Aa n ca) :: (.slice Ab n cb) :: d7 :: d8 :: d9 :: d10 :: d11 :: d12 :: d13 :: d14 :: d15 :: d16 :: d17 :: d18 :: d19 :: d20 :: d21 :: d22 :: d23 :: d24 :: d25 :: d26 :: d27 :: d28 :: d29 :: d30 :: d31 :: d32 :: d33 :: d34 :: d35 :: d36 :: d37 :: d38 :: d39 :: d40 :: d41 :: d42 :: d43 :: d44 :: d45 :: d46 :: d47 :: d48 :: d49 :: d50 :: d51 :: d52 :: d53 :: d54 :: d55 :: d56 :: d57 :: d58 :: d59 :: d60 :: d61 :: d62 :: d63 :: d64 :: d65 :: d66 :: d67 :: d68 :: d69 :: d70 :: d71 :: d72 :: d73 :: d74 :: d75 :: d76 :: d77 :: d78 :: d79 :: d80 :: d81 :: d82 :: d83 :: d84 :: d85 :: d86 :: d87 :: d88 :: d89 :: d90 :: d91 :: d92 :: d93 :: d94 :: d95 :: d96 :: d97 :: d98 :: d99 :: d100 :: d101 :: d102 :: d103 :: d104 :: d105 :: d106 :: d107 :: d108 :: d109 :: d110 :: d111 :: d112 :: d113 :: d114 :: d115 :: d116 :: d117 :: d118 :: d119 :: d120 :: d121 :: d122 :: []), []⟩ w0 := by
  have HLE := Lib.hid hexit
  have H0 := Lib.hid (And.intro h (And.intro hM (And.intro hW (And.intro hbb hbs))))
  have H1 := Lib.hid (And.intro hN (And.intro hN2 (And.intro hlt hn)))
  clear hexit h hM hN hN2 hlt hn hW hbs hbb
  show Code.wp Try.prog (Code.seq (sL w3C) w4C) Q _ _
  refine wp_seq_k fun K1 hK1 => ?_
  have HK1 := Lib.hid hK1
  clear hK1
  conv => arg 2; whnf
  go_wp2_with fail
  go_loopw [7] (I1 W ba bb n (.slice Aa n ca) (.slice Ab n cb)) (fun i _ => n - (intOf i).toNat)
  case atStart => exact ⟨0, by omega, rfl, H1.out.1, H1.out.2.1, H0.out.2.2.2.2, H0.out.2.1⟩
  case round =>
    obtain ⟨k, hk, rfl, hN1, hN2, hbs, M⟩ := hrel
    by_cases hkn : k < n
    · obtain ⟨ga, rfl, hb1, hb2⟩ := hN1.base (by omega)
      have hga := H1.out.2.2.1 ga rfl
      have hnn := H1.out.2.2.2
      have hj1 : (k : Int) < (n : Int) := by omega
      have hj0 : (0 : Int) ≤ (k : Int) := by omega
      have hw64 : wrap64 ((k : Int) + 1) = (k : Int) + 1 := IntWalk.wrap64_in _ (by omega)
      obtain ⟨q, hq⟩ : ∃ q : Int, q = -1 - (k : Int) := ⟨_, rfl⟩
      have hwk : wrap64 (-1 - (k : Int)) = q := by rw [IntWalk.wrap64_in _ (by omega)]; exact hq.symm
      obtain ⟨hP, hT⟩ := hN1.put hkn
      rw [← hq] at hP
      have mS : Mod (one ga) wr (wr.setCells ga (k * 33) (mk q)) := mod_setCells (S := one ga) (show one ga ga from rfl) (mk q) _ _ (Mod.refl _ _)
      have hN2' := hN2.blk mS (fun g e c => by have c : g = ga := c; have := (hN2.ge e).1; omega)
      have hM' : Mod no W (wr.setCells ga (k * 33) (mk q)) := M.trans mS fun b hb c => by
        have c : b = ga := c
        have := H0.out.2.2.1
        omega
      have H4 := Lib.hid (And.intro hP (And.intro hN2' (And.intro (show bb ≤ (wr.setCells ga (k * 33) (mk q)).heap.size by have := mS.size; omega) hM')))
      have HT := Lib.hid hT
      have HJ := Lib.hid (show k + 1 ≤ n ∧ k < n by omega)
      clear hk hN2 hN1 hbs M hP hT mS hN2' hM' hq hnn hb1 hb2 hga
      clear hkn
      have hkn := HJ.out.2
      go_wp2_with (first
        | (refine wpList_mk rfl (.tmp 41) rfl q rfl ?_)
        | (refine wpList_store_mid rfl 89 (.tmp 43) (.tmp 42) rfl ga (k * 33) (mk q).toArray rfl rfl (by rw [ele_size (mk_ele q)]; exact HT.out) (ele_info (mk_ele q)) (ele_one (mk_ele q)) ?_
           simp only [List.toList_toArray]
           clear HT
           generalize wr.setCells ga (k * 33) (mk q) = w5 at *))
      go_roundw
      case rel => exact ⟨k + 1, HJ.out.1, by go_num, H4.out⟩
      case measure =>
        try rw [hw64]
        clear hw64 hwk
        have := HJ.out.1
        show n - ((k : Int) + 1).toNat < n - ((k : Int)).toNat
        omega
    · obtain rfl : k = n := by omega
      have hj1 : ¬ (k : Int) < (k : Int) := by omega
      have H4 := Lib.hid (And.intro hN1 (And.intro hN2 (And.intro hbs M)))
      clear hk hkn hN2 hN1 hbs M
      go_wp2_with fail
      refine HK1.out _ _ ?_
      clear HK1
      refine w4_any H0.out.1 H4.out.2.2.2 H0.out.2.2.1 H0.out.2.2.2.1 H4.out.2.2.1 H4.out.1 H4.out.2.1 H1.out.2.2.1 H1.out.2.2.2 _ _ _ _ _ _ _ _ _ _ _ _ _ _ _ _ _ _ _ _ _ _ _ _ _ _ _ _ _ _ _ _ _ _ _ _ _ _ _ _ _ _ _ _ _ _ _ _ _ _ _ _ _ _ _ _ _ _ _ _ _ _ _ _ _ _ _ _ _ _ _ _ _ _ _ _ _ _ _ _ _ _ _ _ _ _ _ _ _ _ _ _ _ _ _ _ _ _ _ _ _ _ _ _ _ _ _ _ _ _ _ _ _ _ _ _ _ _ _ _ ?_
      intro u4 u8 u9 u10 u11 u44 u45 u46 u47 u48 u49 u50 u51 u52 u53 u54 u55 u56 u57 u58 u59 u60 u61 u62 u63 u64 u65 u66 u67 u68 u69 u70 u71 u72 u73 u74 u75 u76 u77 u78 u79 u80 u81 u82 u83 u84 u85 u86 u87 u88 u89 u90 u91 u92 u93 u94 u95 u96 u97 u98 u99 u100 u101 u102 u103 u104 u105 u106 u107 u108 u109 u110 u111 u112 u113 u114 u115 u116 u117 u118 u119 u120 u121 u122 w' h M
      exact HLE.out _ _ _ _ _ _ _ _ _ _ _ _ _ _ _ _ _ _ _ _ _ _ _ _ _ _ _ _ _ _ _ _ _ _ _ _ _ _ _ _ _ _ _ _ _ _ _ _ _ _ _ _ _ _ _ _ _ _ _ _ _ _ _ _ _ _ _ _ _ _ _ _ _ _ _ _ _ _ _ _ _ _ _ _ _ _ _ _ _ _ _ _ _ _ _ _ _ _ h M

set_option maxRecDepth 100000 in
set_option maxHeartbeats 4000000 in
theorem own_l {w : World} {lv : Option Addr} {live : Bool} {lg g gr r : Nat} {A : Option Addr} {L : List (List Value)} (h : Two w lv live lg g gr r A L) :
    Calls Try.prog 17 #[.pointer lv, .pointer (some ⟨r, 0, none⟩)] w fun e w' => e = .returned (.bool true) ∧ Mod no w w' := by
  have H0 := Lib.hid h
  clear h
  go_enter Try.func17, Try.ntmps17
  show Code.wp Try.prog (Code.seq (sL ownC) (Code.seq (sL w1C) (Code.seq (sL w2C) w3C))) _ _ _
  refine wp_seq_k fun K0 hK0 => ?_
  have HK0 := Lib.hid hK0
  clear hK0
  conv => arg 2; whnf
  go_wp2_with fail
  refine HK0.out _ _ ?_
  clear HK0
  refine wp_seq_k fun K0 hK0 => ?_
  have HK0 := Lib.hid hK0
  clear hK0
  conv => arg 2; whnf
  go_wp2_with fail
  refine H0.out.all.mono ?_
  rintro e w1 ⟨Aa, ca, rfl, ho1, hs1, m1⟩
  have H1 := Lib.hid (And.intro ho1 (And.intro hs1 m1))
  clear ho1 hs1 m1
  go_wp2_with fail
  refine (H0.out.mod_no H1.out.2.2).all.mono ?_
  rintro e w2 ⟨Ab, cb, rfl, ho2, hs2, m2⟩
  obtain ⟨c, hb, _⟩ := (H0.out.mod_no (H1.out.2.2.and_then m2)).2.2.1.at_
  have c2 := hb.cell 0
  simp at c2
  have H2 := Lib.hid (And.intro ho2 (And.intro hs2 (And.intro m2 hb)))
  clear ho2 hs2 m2 hb
  go_wp2_with fail
  refine HK0.out _ _ ?_
  clear HK0
  refine wp_seq_k fun K0 hK0 => ?_
  have HK0 := Lib.hid hK0
  clear hK0
  conv => arg 2; whnf
  go_wp2_with fail
  refine ((H0.out.mod_no (H1.out.2.2.and_then H2.out.2.2.1)).alike (w' := w2) (H1.out.2.1.mod_no H2.out.2.2.1)).mono ?_
  rintro e w3 ⟨rfl, m3⟩
  have hb3 := H2.out.2.2.2.mod m3 (fun c => c)
  have c3 := hb3.cell 0
  simp at c3
  have H3 := Lib.hid m3
  clear m3 c2 hb3
  go_wp2_with fail
  refine ((H0.out.mod_no ((H1.out.2.2.and_then H2.out.2.2.1).and_then H3.out)).alike (w' := w3) (H2.out.2.1.mod_no H3.out)).mono ?_
  rintro e w4 ⟨rfl, m4⟩
  have H4 := Lib.hid m4
  clear m4 c3
  go_wp2_with fail
  refine HK0.out _ _ ?_
  clear HK0
  have hke : ∀ x ∈ L, Ele x := fun x hx => (H0.out.2.2.2.1 x hx).ele
  have mm := ((H1.out.2.2.and_then H2.out.2.2.1).and_then H3.out).and_then H4.out
  have hN1 := ((Num.of_own (z := -1) H1.out.1 hke).mod_no ((H2.out.2.2.1.and_then H3.out).and_then H4.out))
  have hN2 := ((Num.of_own (z := -100000) H2.out.1 hke).mod_no (H3.out.and_then H4.out))
  have hs1 := H1.out.2.2.size
  have hs2 := ((H2.out.2.2.1.and_then H3.out).and_then H4.out).size
  refine w3_any H0.out mm (Nat.le_refl _) hs1 hs2 hN1 hN2 (fun g e => ((Num.of_own (z := -1) H1.out.1 hke).ge e).2) H0.out.2.2.2.2 _ _ _ _ _ _ _ _ _ _ _ _ _ _ _ _ _ _ _ _ _ _ _ _ _ _ _ _ _ _ _ _ _ _ _ _ _ _ _ _ _ _ _ _ _ _ _ _ _ _ _ _ _ _ _ _ _ _ _ _ _ _ _ _ _ _ _ _ _ _ _ _ _ _ _ _ _ _ _ _ _ _ _ _ _ _ _ _ _ _ _ _ _ _ _ _ _ _ _ _ _ _ _ _ _ _ _ _ _ _ _ _ _ _ _ _ _ _ _ _ ?_
  intro u4 u7 u8 u9 u10 u11 u32 u33 u34 u35 u36 u37 u38 u39 u40 u41 u42 u43 u44 u45 u46 u47 u48 u49 u50 u51 u52 u53 u54 u55 u56 u57 u58 u59 u60 u61 u62 u63 u64 u65 u66 u67 u68 u69 u70 u71 u72 u73 u74 u75 u76 u77 u78 u79 u80 u81 u82 u83 u84 u85 u86 u87 u88 u89 u90 u91 u92 u93 u94 u95 u96 u97 u98 u99 u100 u101 u102 u103 u104 u105 u106 u107 u108 u109 u110 u111 u112 u113 u114 u115 u116 u117 u118 u119 u120 u121 u122 w' h M
  subst h
  go_ret
  exact ⟨rfl, M⟩

end Go.Proofs.Ytknbehjhaaidoaa.DG
