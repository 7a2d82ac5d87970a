/- The law GreyList: the walk (printed by greylaw.py). -/
import Derived.Test.YtknbehjhaaidoaaEdM
import Derived.StillTailTactics
import Derived.Deep.RegionWith
namespace Go.Proofs.Ytknbehjhaaidoaa.DG
open Go.RowKit Mem DQ
set_option linter.unusedVariables false
set_option linter.unusedSimpArgs false

/-- The script: n calls, wherever they lie. -/
def MSrc (w : World) (A : Option Addr) (n : Nat) : Prop := 0 < n → ∃ b o, A = some ⟨b, o, none⟩ ∧ b < w.heap.size ∧ ∀ k : Nat, k < n → ∃ (kd : Int) (nn bt : Bool) (bs : List UInt8), bs.length = 32 ∧ w.rangeAt b (o + k * 35) (mv kd nn bt (kOf bs))
theorem mv_len35 {kd : Int} {nn bt : Bool} {bs : List UInt8} (h : bs.length = 32) : (mv kd nn bt (kOf bs)).length = 35 := by simp [mv, kOf, h]
theorem mv_info {m : List Value} (h : m.length = 35) : (Try.prog.info? 41).map (·.size) = some m.length := by rw [h]; kernel_rfl
theorem mv_one {kd : Int} {nn bt : Bool} {bs : List UInt8} (h : bs.length = 32) : (mv kd nn bt (kOf bs)).toArray.all (·.oneCell') = true := all_oneCell_toArray fun v hv => by
  unfold mv at hv
  rcases List.mem_append.1 hv with h1 | h1
  · simp at h1
    rcases h1 with rfl | rfl | rfl <;> rfl
  · exact (kOf_key h).2 v h1
theorem mvar_set {w : World} {v : Nat} {z m : List Value} (h : Blk w v 41 z.toArray) (hz : z.length = 35) (hm : m.length = 35) : w.there v 0 m.toArray.size ∧ Blk (w.setCells v 0 m) v 41 m.toArray ∧ Mod (one v) w (w.setCells v 0 m) := by
  refine ⟨fun j hj => ⟨by rw [h.cell, Array.getElem?_eq_getElem (by simp at hj ⊢; omega)]; rfl, h.free _⟩, ?_, mod_setCells (S := one v) (show one v v from rfl) m 0 _ (Mod.refl _ _)⟩
  have hp := blk_sets v m 0 z w h (by omega)
  rw [List.take_zero, List.nil_append, List.drop_eq_nil_of_le (by omega), List.append_nil] at hp
  exact hp
theorem blk_range0 {w : World} {v : Nat} {t : TypeId} {m : List Value} (h : Blk w v t m.toArray) : w.rangeAt v 0 m := fun j u hu => by
  rw [h.cell, Nat.zero_add, List.getElem?_toArray]
  exact hu
def zm : List Value := [.int .i64 0, .bool false, .bool false] ++ List.replicate 32 (.int .u8 0)
def LI (W : World) (n lg g r : Nat) (i u6 u7 u8 : Value) (wr : World) : Prop := ∃ k : Nat, k ≤ n ∧ i = .int .i64 (k : Int) ∧ ∃ gr A L, MS wr (some ⟨lg, 0, none⟩) true lg g gr r A L ∧ L.length ≤ k ∧ (∀ b, pset true g gr b → W.heap.size ≤ b) ∧ Mod no W wr
noncomputable def lawC : Code := Try.f4.body.getD .skip
noncomputable def l1C : Code := sR lawC
noncomputable def l2C : Code := sR l1C
noncomputable def l3C : Code := sR l2C
noncomputable def l4C : Code := sR l3C
noncomputable def l5C : Code := sR l4C
theorem Two.len {w : World} {lv : Option Addr} {live : Bool} {lg g gr r : Nat} {A : Option Addr} {L : List (List Value)} (h : Two w lv live lg g gr r A L) : Calls Try.prog 18 #[.pointer lv] w fun e w' => e = .returned (.int .i64 (L.length : Int)) ∧ w = w' := by
  obtain ⟨rfl, hp, _⟩ := h
  exact len_l hp
theorem op_own {a : Act} {o : Oper} {w : World} {K : Act → World → Prop} {Q : Exit → Act → World → Prop} {x0 x1 : Operand} {t0 t1 : TypeId} {v0 v1 : Value} {R : Ending → World → Prop} (ho : o.op = .call { callee := .value (.func 17), args := #[x0, x1], argTypes := #[t0, t1] }) (h0 : a.eval x0 = v0) (h1 : a.eval x1 = v1)
    (hC : Calls Try.prog 17 #[v0, v1] w R) (hR : ∀ e w', R e w' → ∃ u, e = .returned u ∧ K (a.put o.dst u) w') : Oper.wp Try.prog o a w K Q := by
  have h : (execOp a.eval o).run Try.prog w = .ok (.enter 17 #[v0, v1]) w := by
    have hf : a.eval (.func 17) = .func (.func 17) #[] #[] := rfl
    generalize a.eval = ev at h0 h1 hf
    unfold execOp
    simp only [ho]
    go_simp
  unfold Oper.wp
  rw [h, Oper.upon_enter]
  refine hC.mono fun e w' hr => ?_
  obtain ⟨u, rfl, hk⟩ := hR e w' hr
  exact hk
theorem y_pickT {a : Act} {o : Oper} {w : World} {x y z : Operand} {v : Value} (ho : o.op = .pick x y z) (hx : a.eval x = .bool true) (hy : a.eval y = v) : (execOp a.eval o).run Try.prog w = .ok (.value v) w := by
  generalize a.eval = ev at hx hy
  unfold execOp
  simp only [ho, hx, hy]
  go_simp

set_option maxRecDepth 100000 in
set_option maxHeartbeats 4000000 in
theorem list_law {W : World} {A0 : Option Addr} {n c0 : Nat} (hS : MSrc W A0 n) (hn : n ≤ 1048400) :
    Calls Try.prog 4 #[.slice A0 n c0] W fun e w' => e = .returned (.bool true) ∧ Mod no W w' := by
  have HS := Lib.hid (And.intro hS hn)
  clear hS hn
  go_enter Try.func4, Try.ntmps4
  show Code.wp Try.prog (Code.seq (sL lawC) (Code.seq (sL l1C) (Code.seq (sL l2C) (Code.seq (sL l3C) (Code.seq (sL l4C) l5C))))) _ _ _
  refine wp_seq_k fun K0 hK0 => ?_
  have HK0 := Lib.hid hK0
  clear hK0
  conv => arg 2; whnf
  go_wp2_with fail
  refine HK0.out _ _ ?_
  clear HK0
  refine wp_seq_k fun K0 hK0 => ?_
  have HK0 := Lib.hid hK0
  clear hK0
  conv => arg 2; whnf
  go_wp2_with fail
  refine lnew_any.mono ?_
  rintro e w1 ⟨lg, g, gr, rfl, hl, hd, hg1, hg2, hg3, m1⟩
  have HG := Lib.hid (And.intro hl (And.intro (show GAt w1 g gr [] from ⟨_, _, hd, by decide, by decide⟩) (And.intro hg1 (And.intro hg2 (And.intro hg3 m1)))))
  have hsz1 := m1.size
  clear hl hd hg1 hg2 hg3 m1
  go_wp2_with fail
  refine HK0.out _ _ ?_
  clear HK0
  refine wp_seq_k fun K0 hK0 => ?_
  have HK0 := Lib.hid hK0
  clear hK0
  conv => arg 2; whnf
  go_wp2_with fail
  refine HK0.out _ _ ?_
  clear HK0
  have mr : Mod no w1 (w1.alloc (.cells #[.slice none 0 0] 37)) := (Mod.refl no w1).alloc _
  have hp1 : PAt w1 true lg g gr [] := ⟨fun _ => HG.out.1, fun _ => HG.out.2.1, fun e => absurd e (by decide)⟩
  have hms : MS (w1.alloc (.cells #[.slice none 0 0] 37)) (some ⟨lg, 0, none⟩) true lg g gr w1.heap.size none [] := ⟨rfl, hp1.mod_no mr, ⟨0, Blk.new w1 37 #[.slice none 0 0], Src.nil _ _, Nat.le_refl _⟩, fun x hx => absurd hx (by simp), fun h => absurd h (by decide)⟩
  have HM1 := Lib.hid (And.intro hms (HG.out.2.2.2.2.2.and_then mr))
  clear mr hp1 hms
  generalize w1.alloc (.cells #[.slice none 0 0] 37) = w2 at *
  refine wp_seq_k fun K0 hK0 => ?_
  have HK0 := Lib.hid hK0
  clear hK0
  conv => arg 2; whnf
  go_wp2_with fail
  refine (works_any w2).mono ?_
  rintro e w3 ⟨rfl, m3⟩
  have HM3 := Lib.hid (And.intro (HM1.out.1.mod_no m3) (HM1.out.2.and_then m3))
  clear m3
  go_wp2_with fail
  refine HK0.out _ _ ?_
  clear HK0
  obtain ⟨r, hr⟩ : ∃ r, r = w1.heap.size := ⟨_, rfl⟩
  have HR := Lib.hid (show W.heap.size ≤ r by omega)
  rw [← hr] at HM3 ⊢
  have HGB := Lib.hid (show ∀ b, pset true g gr b → W.heap.size ≤ b from fun b c => by
    have := HG.out.2.2.1
    have := HG.out.2.2.2.1
    rcases c.2 with c | c <;> omega)
  clear hr HG HM1 hsz1
  refine wp_seq_k fun K0 hK0 => ?_
  have HK0 := Lib.hid hK0
  clear hK0
  conv => arg 2; whnf
  go_wp2_with fail
  go_loopw [5, 6, 7, 8] (LI W n lg g r) (fun i _ _ _ _ => n - (intOf i).toNat)
  case atStart => exact ⟨0, Nat.zero_le _, rfl, gr, none, [], HM3.out.1, Nat.le_refl _, HGB.out, HM3.out.2⟩
  case round =>
    clear HM3 HGB
    obtain ⟨k, hk, rfl, gr2, A, L, hms, hLk, hgb, M⟩ := hrel
    by_cases hkn : k < n
    · obtain ⟨b0, o0, rfl, hb0, hel⟩ := HS.out.1 (by omega)
      obtain ⟨kd, nn, bt, bs, hbs, hrg⟩ := hel k hkn
      have hnn := HS.out.2
      have hj1 : (k : Int) < (n : Int) := by omega
      have hj0 : (0 : Int) ≤ (k : Int) := by omega
      have hw64 : wrap64 ((k : Int) + 1) = (k : Int) + 1 := IntWalk.wrap64_in _ (by omega)
      obtain ⟨m, hm⟩ : ∃ m, m = mv kd nn bt (kOf bs) := ⟨_, rfl⟩
      rw [← hm] at hrg
      have hml : m.length = 35 := by rw [hm]; exact mv_len35 hbs
      have hmo : m.toArray.all (·.oneCell') = true := by rw [hm]; exact mv_one hbs
      have hrg' : wr.rangeAt b0 (o0 + k * 35) m := fun j u hu => by rw [M.cell hb0 (fun c => c)]; exact hrg j u hu
      have m4 : Mod no wr (wr.alloc (.cells #[.int .i64 0, .bool false, .bool false, .int .u8 0, .int .u8 0, .int .u8 0, .int .u8 0, .int .u8 0, .int .u8 0, .int .u8 0, .int .u8 0, .int .u8 0, .int .u8 0, .int .u8 0, .int .u8 0, .int .u8 0, .int .u8 0, .int .u8 0, .int .u8 0, .int .u8 0, .int .u8 0, .int .u8 0, .int .u8 0, .int .u8 0, .int .u8 0, .int .u8 0, .int .u8 0, .int .u8 0, .int .u8 0, .int .u8 0, .int .u8 0, .int .u8 0, .int .u8 0, .int .u8 0, .int .u8 0] 41)) := (Mod.refl no wr).alloc _
      obtain ⟨hth, hbk, mS⟩ := mvar_set (show Blk (wr.alloc (.cells #[.int .i64 0, .bool false, .bool false, .int .u8 0, .int .u8 0, .int .u8 0, .int .u8 0, .int .u8 0, .int .u8 0, .int .u8 0, .int .u8 0, .int .u8 0, .int .u8 0, .int .u8 0, .int .u8 0, .int .u8 0, .int .u8 0, .int .u8 0, .int .u8 0, .int .u8 0, .int .u8 0, .int .u8 0, .int .u8 0, .int .u8 0, .int .u8 0, .int .u8 0, .int .u8 0, .int .u8 0, .int .u8 0, .int .u8 0, .int .u8 0, .int .u8 0, .int .u8 0, .int .u8 0, .int .u8 0] 41)) wr.heap.size 41 zm.toArray from Blk.new wr 41 #[.int .i64 0, .bool false, .bool false, .int .u8 0, .int .u8 0, .int .u8 0, .int .u8 0, .int .u8 0, .int .u8 0, .int .u8 0, .int .u8 0, .int .u8 0, .int .u8 0, .int .u8 0, .int .u8 0, .int .u8 0, .int .u8 0, .int .u8 0, .int .u8 0, .int .u8 0, .int .u8 0, .int .u8 0, .int .u8 0, .int .u8 0, .int .u8 0, .int .u8 0, .int .u8 0, .int .u8 0, .int .u8 0, .int .u8 0, .int .u8 0, .int .u8 0, .int .u8 0, .int .u8 0, .int .u8 0]) rfl hml
      have m5 : Mod no wr ((wr.alloc (.cells #[.int .i64 0, .bool false, .bool false, .int .u8 0, .int .u8 0, .int .u8 0, .int .u8 0, .int .u8 0, .int .u8 0, .int .u8 0, .int .u8 0, .int .u8 0, .int .u8 0, .int .u8 0, .int .u8 0, .int .u8 0, .int .u8 0, .int .u8 0, .int .u8 0, .int .u8 0, .int .u8 0, .int .u8 0, .int .u8 0, .int .u8 0, .int .u8 0, .int .u8 0, .int .u8 0, .int .u8 0, .int .u8 0, .int .u8 0, .int .u8 0, .int .u8 0, .int .u8 0, .int .u8 0, .int .u8 0] 41)).setCells wr.heap.size 0 m) := m4.trans mS fun b hb c => by have c : b = wr.heap.size := c; omega
      have H5 := Lib.hid (And.intro (hms.mod_no m5) (And.intro hbk (And.intro (M.and_then m5) (And.intro hgb hLk))))
      have HB := Lib.hid (And.intro hrg' (And.intro hth (And.intro hml (And.intro hmo (And.intro hm hbs)))))
      have HJ := Lib.hid (show k + 1 ≤ n ∧ k < n by omega)
      have hmc : m[1]? = some (.bool nn) := by rw [hm]; rfl
      clear hk hms hLk hgb M hel hrg hm hml hmo hrg' m4 hth hbk mS m5 hbs hnn hkn hb0
      have hkn := HJ.out.2
      cases nn
      · go_wp2_with (first
          | (refine wpList_load_mid rfl 41 (.tmp 22) rfl b0 (o0 + k * 35) rfl m _ HB.out.1 Try.underlying41 rfl (mv_info HB.out.2.2.1) ?_)
          | (refine wpList_store_mid rfl 41 (.tmp 6) (.tmp 23) rfl wr.heap.size 0 m.toArray rfl rfl HB.out.2.1 (by rw [List.size_toArray]; exact mv_info HB.out.2.2.1) HB.out.2.2.2.1 ?_
             simp only [List.toList_toArray]
             generalize (wr.alloc (.cells #[.int .i64 0, .bool false, .bool false, .int .u8 0, .int .u8 0, .int .u8 0, .int .u8 0, .int .u8 0, .int .u8 0, .int .u8 0, .int .u8 0, .int .u8 0, .int .u8 0, .int .u8 0, .int .u8 0, .int .u8 0, .int .u8 0, .int .u8 0, .int .u8 0, .int .u8 0, .int .u8 0, .int .u8 0, .int .u8 0, .int .u8 0, .int .u8 0, .int .u8 0, .int .u8 0, .int .u8 0, .int .u8 0, .int .u8 0, .int .u8 0, .int .u8 0, .int .u8 0, .int .u8 0, .int .u8 0] 41)).setCells wr.heap.size 0 m = w5 at *
             have c1 : w5.cell? ⟨wr.heap.size, 1, none⟩ = some (.bool false) := by rw [H5.out.2.1.cell, List.getElem?_toArray]; exact hmc)
          | (refine wpList_load_mid rfl 41 (.tmp 6) rfl wr.heap.size 0 rfl m _ (blk_range0 H5.out.2.1) Try.underlying41 rfl (mv_info HB.out.2.2.1) ?_))
        rw [HB.out.2.2.2.2.1]
        refine (moves_l (live := true) H5.out.1 (by have := H5.out.2.2.2.2; have := HS.out.2; omega) HB.out.2.2.2.2.2).mono ?_
        rintro e w6 ⟨rfl, gr3, A3, L3, hms3, hl3, hn3, m6⟩
        have hs5 := H5.out.2.2.1.size
        have hM6 : Mod no W w6 := H5.out.2.2.1.trans m6 fun b hb c => by
          have := HR.out
          rcases c with c | c
          · have := H5.out.2.2.2.1 b c; omega
          · omega
        have hg6 : ∀ b, pset true g gr3 b → W.heap.size ≤ b := fun b c => by
          rcases c.2 with c | c
          · exact H5.out.2.2.2.1 b ⟨rfl, .inl c⟩
          · rcases hn3 with n3 | n3
            · exact H5.out.2.2.2.1 b ⟨rfl, .inr (by omega)⟩
            · omega
        have H6 := Lib.hid (And.intro hms3 (And.intro (show L3.length ≤ k + 1 by have := H5.out.2.2.2.2; omega) (And.intro hg6 hM6)))
        clear hms3 hl3 hn3 m6 hM6 hg6
        rw [← HB.out.2.2.2.2.1]
        clear c1
        go_wp2_with fail
        go_roundw
        case rel => exact ⟨k + 1, HJ.out.1, by go_num, gr3, A3, L3, H6.out⟩
        case measure =>
          try rw [hw64]
          clear hw64
          have := HJ.out.1
          show n - ((k : Int) + 1).toNat < n - ((k : Int)).toNat
          omega
      · go_wp2_with (first
          | (refine wpList_load_mid rfl 41 (.tmp 22) rfl b0 (o0 + k * 35) rfl m _ HB.out.1 Try.underlying41 rfl (mv_info HB.out.2.2.1) ?_)
          | (refine wpList_store_mid rfl 41 (.tmp 6) (.tmp 23) rfl wr.heap.size 0 m.toArray rfl rfl HB.out.2.1 (by rw [List.size_toArray]; exact mv_info HB.out.2.2.1) HB.out.2.2.2.1 ?_
             simp only [List.toList_toArray]
             generalize (wr.alloc (.cells #[.int .i64 0, .bool false, .bool false, .int .u8 0, .int .u8 0, .int .u8 0, .int .u8 0, .int .u8 0, .int .u8 0, .int .u8 0, .int .u8 0, .int .u8 0, .int .u8 0, .int .u8 0, .int .u8 0, .int .u8 0, .int .u8 0, .int .u8 0, .int .u8 0, .int .u8 0, .int .u8 0, .int .u8 0, .int .u8 0, .int .u8 0, .int .u8 0, .int .u8 0, .int .u8 0, .int .u8 0, .int .u8 0, .int .u8 0, .int .u8 0, .int .u8 0, .int .u8 0, .int .u8 0, .int .u8 0] 41)).setCells wr.heap.size 0 m = w5 at *
             have c1 : w5.cell? ⟨wr.heap.size, 1, none⟩ = some (.bool true) := by rw [H5.out.2.1.cell, List.getElem?_toArray]; exact hmc)
          | (refine wpList_load_mid rfl 41 (.tmp 6) rfl wr.heap.size 0 rfl m _ (blk_range0 (H5.out.2.1.alloc (.cells #[.slice none 0 0] 37))) Try.underlying41 rfl (mv_info HB.out.2.2.1) ?_))
        rw [HB.out.2.2.2.2.1]
        have mr : Mod no w5 (w5.alloc (.cells #[.slice none 0 0] 37)) := (Mod.refl no w5).alloc _
        have hm0 : MS (w5.alloc (.cells #[.slice none 0 0] 37)) none false 0 0 0 w5.heap.size none [] := ⟨rfl, ⟨fun e => absurd e (by decide), fun e => absurd e (by decide), fun _ => rfl⟩, ⟨0, Blk.new w5 37 #[.slice none 0 0], Src.nil _ _, Nat.le_refl _⟩, fun x hx => absurd hx (by simp), fun h => absurd h (by decide)⟩
        refine (moves_l (live := false) hm0 (by decide) HB.out.2.2.2.2.2).mono ?_
        rintro e w6 ⟨rfl, _, _, _, _, _, _, m6⟩
        have hs5 := H5.out.2.2.1.size
        have hM6 : Mod no W w6 := (H5.out.2.2.1.and_then mr).trans m6 fun b hb c => by
          rcases c with c | c
          · exact absurd c.1 (by decide)
          · omega
        have hlg := H5.out.1.p.lg_lt rfl
        have hg0 := H5.out.1.p.lt (b := g) ⟨rfl, .inl rfl⟩
        have hg1 := H5.out.1.p.lt (b := gr2) ⟨rfl, .inr rfl⟩
        have hr0 := H5.out.1.r.lt
        have hms6 := (H5.out.1.mod_no mr).mod m6 (fun _ => ⟨fun c => by
            rcases c with c | c
            · exact absurd c.1 (by decide)
            · omega, fun c => by
            rcases c with c | c
            · exact absurd c.1 (by decide)
            · omega, fun c => by
            rcases c with c | c
            · exact absurd c.1 (by decide)
            · omega⟩) (fun c => by
            rcases c with c | c
            · exact absurd c.1 (by decide)
            · omega) (fun hl b o e c => by
            have := H5.out.1.r.row_lt hl e
            rcases c with c | c
            · exact absurd c.1 (by decide)
            · omega)
        have H6 := Lib.hid (And.intro hms6 (And.intro (show L.length ≤ k + 1 by have := H5.out.2.2.2.2; omega) (And.intro H5.out.2.2.2.1 hM6)))
        clear hms6 m6 hM6 mr hm0 hlg hg0 hg1 hr0
        rw [← HB.out.2.2.2.2.1]
        clear c1
        go_wp2_with fail
        go_roundw
        case rel => exact ⟨k + 1, HJ.out.1, by go_num, gr2, A, L, H6.out⟩
        case measure =>
          try rw [hw64]
          clear hw64
          have := HJ.out.1
          show n - ((k : Int) + 1).toNat < n - ((k : Int)).toNat
          omega
    · obtain rfl : k = n := by omega
      have hj1 : ¬ (k : Int) < (k : Int) := by omega
      have HF := Lib.hid (And.intro hms (And.intro hLk (And.intro hgb M)))
      clear hk hkn hms hLk hgb M
      go_wp2_with fail
      refine HK0.out _ _ ?_
      clear HK0
      show Code.wp Try.prog (Code.seq (sL l5C) .ret) _ _ _
      refine wp_seq_k fun K1 hK1 => ?_
      have HK1 := Lib.hid hK1
      clear hK1
      conv => arg 2; whnf
      refine Code.wp_mono (Q := RetP K1) (fun e a w q => by cases e <;> first | exact q | exact q.elim) ?_
      go_wp2_with fail
      have m1 : Mod no wr wr.drew := (Mod.refl no wr).drew
      obtain ⟨cr, hbr, _⟩ := HF.out.1.r.at_
      have HTW := Lib.hid (show Two wr.drew (some ⟨lg, 0, none⟩) true lg g gr2 r A L from (HF.out.1.two (by have := HF.out.2.1; have := HS.out.2; omega)).mod_no m1)
      refine wp_region_held_drew (S := fun w' => Blk w' r 37 #[.slice A L.length cr]) (by kernel_rfl) hbr.drew (fun hHeld => ?_)
      clear hbr
      refine takeD (i := 0) (d := some 35) (v := (.pointer (some ⟨lg, 0, none⟩))) rfl (by kernel_rfl) (by kernel_rfl) (by kernel_rfl) rfl (fun _ _ _ h => h) (Or.inl ⟨by kernel_rfl, fun w9 hw => y_move rfl rfl⟩) hHeld ?_
      simp only [Act.put, List.setIfInBounds_toArray, List.set_cons_zero, List.set_cons_succ]
      refine takeD (i := 1) (d := some 36) (v := (.pointer (some ⟨r, 0, none⟩))) rfl (by kernel_rfl) (by kernel_rfl) (by kernel_rfl) rfl (fun _ _ _ h => h) (Or.inl ⟨by kernel_rfl, fun w9 hw => y_move rfl rfl⟩) hHeld ?_
      simp only [Act.put, List.setIfInBounds_toArray, List.set_cons_zero, List.set_cons_succ]
      refine readyD (i := 2) (d := some 37) rfl (by kernel_rfl) rfl (by kernel_rfl) fun K hK => ?_
      refine op_own rfl rfl rfl (own_l HTW.out) ?_
      rintro e w3 ⟨rfl, m3⟩
      have hHeld3 := hHeld.mod m3 (fun c => c)
      refine ⟨_, rfl, hK _ _ hHeld3 fun _ => ?_⟩
      have H3 := Lib.hid (And.intro (HTW.out.mod_no m3) ((HF.out.2.2.2.and_then m1).and_then m3))
      clear hK K hHeld m3
      have hHeld := hHeld3
      have HLN := Lib.hid H3.out.1.len
      simp only [Act.put, List.setIfInBounds_toArray, List.set_cons_zero, List.set_cons_succ]
      refine takeD (i := 3) (d := some 38) (v := (.bool true)) rfl (by kernel_rfl) (by kernel_rfl) (by kernel_rfl) rfl (fun _ _ _ h => h) (Or.inl ⟨by kernel_rfl, fun w9 hw => y_move rfl rfl⟩) hHeld ?_
      simp only [Act.put, List.setIfInBounds_toArray, List.set_cons_zero, List.set_cons_succ]
      refine takeD (i := 4) (d := some 39) (v := (.pointer (some ⟨lg, 0, none⟩))) rfl (by kernel_rfl) (by kernel_rfl) (by kernel_rfl) rfl (fun _ _ _ h => h) (Or.inl ⟨by kernel_rfl, fun w9 hw => y_move rfl rfl⟩) hHeld ?_
      simp only [Act.put, List.setIfInBounds_toArray, List.set_cons_zero, List.set_cons_succ]
      refine takeD (i := 6) (d := some 41) (v := (.pointer (some ⟨r, 0, none⟩))) rfl (by kernel_rfl) (by kernel_rfl) (by kernel_rfl) rfl (fun _ _ _ h => h) (Or.inl ⟨by kernel_rfl, fun w9 hw => y_move rfl rfl⟩) hHeld ?_
      simp only [Act.put, List.setIfInBounds_toArray, List.set_cons_zero, List.set_cons_succ]
      refine takeD (i := 7) (d := some 42) (v := (.pointer (some ⟨r, 0, none⟩))) rfl (by kernel_rfl) (by kernel_rfl) (by kernel_rfl) rfl (fun _ _ _ h => h) (Or.inl ⟨by kernel_rfl, fun w9 hw => y_nil rfl rfl⟩) hHeld ?_
      simp only [Act.put, List.setIfInBounds_toArray, List.set_cons_zero, List.set_cons_succ]
      refine takeD (i := 8) (d := some 43) (v := (.pointer (some ⟨r, 0, none⟩))) rfl (by kernel_rfl) (by kernel_rfl) (by kernel_rfl) rfl (fun _ _ _ h => h) (Or.inl ⟨by kernel_rfl, fun w9 hw => y_reff rfl rfl⟩) hHeld ?_
      simp only [Act.put, List.setIfInBounds_toArray, List.set_cons_zero, List.set_cons_succ]
      refine takeD (i := 9) (d := some 44) (v := (.slice A L.length cr)) rfl (by kernel_rfl) (by kernel_rfl) (by kernel_rfl) rfl (fun _ _ _ h => h) (Or.inl ⟨by kernel_rfl, fun w9 hw => y_load rfl (.inr rfl) rfl (by rw [hw.cell]; rfl) rfl⟩) hHeld ?_
      simp only [Act.put, List.setIfInBounds_toArray, List.set_cons_zero, List.set_cons_succ]
      refine takeD (i := 10) (d := some 45) (v := (.int .i64 (L.length : Int))) rfl (by kernel_rfl) (by kernel_rfl) (by kernel_rfl) rfl (fun _ _ _ h => h) (Or.inl ⟨by kernel_rfl, fun w9 hw => y_len rfl rfl⟩) hHeld ?_
      simp only [Act.put, List.setIfInBounds_toArray, List.set_cons_zero, List.set_cons_succ]
      refine readyD (i := 5) (d := some 40) rfl (by kernel_rfl) rfl (by kernel_rfl) fun K hK => ?_
      refine op_lenL rfl rfl HLN.out ?_
      rintro e w4 ⟨rfl, rfl⟩
      refine ⟨_, rfl, hK _ _ hHeld fun _ => ?_⟩
      clear hK K
      simp only [Act.put, List.setIfInBounds_toArray, List.set_cons_zero, List.set_cons_succ]
      refine takeD (i := 11) (d := some 46) (v := (.bool true)) rfl (by kernel_rfl) (by kernel_rfl) (by kernel_rfl) rfl (fun _ _ _ h => h) (Or.inl ⟨by kernel_rfl, fun w9 hw => y_eqlI rfl rfl rfl⟩) hHeld ?_
      simp only [Act.put, List.setIfInBounds_toArray, List.set_cons_zero, List.set_cons_succ]
      refine takeD (i := 12) (d := some 47) (v := (.bool true)) rfl (by kernel_rfl) (by kernel_rfl) (by kernel_rfl) rfl (fun _ _ _ h => h) (Or.inl ⟨by kernel_rfl, fun w9 hw => y_pickT rfl rfl rfl⟩) hHeld ?_
      simp only [Act.put, List.setIfInBounds_toArray, List.set_cons_zero, List.set_cons_succ]
      refine takeD (i := 13) (d := some 2) (v := (.bool true)) rfl (by kernel_rfl) (by kernel_rfl) (by kernel_rfl) rfl (fun _ _ _ h => h) (Or.inl ⟨by kernel_rfl, fun w9 hw => y_assign rfl rfl⟩) hHeld ?_
      simp only [Act.put, List.setIfInBounds_toArray, List.set_cons_zero, List.set_cons_succ]
      refine wpAnyH_done (by kernel_rfl) ?_ _
      refine HK1.out _ _ ?_
      go_wp2_with fail
      go_ret
      exact ⟨rfl, H3.out.2⟩

end Go.Proofs.Ytknbehjhaaidoaa.DG
