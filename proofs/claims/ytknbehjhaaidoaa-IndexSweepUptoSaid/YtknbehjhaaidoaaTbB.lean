/- A table's find: a key's way. -/
import Derived.Test.YtknbehjhaaidoaaTbY
import Derived.BigQuiet
import Derived.Deep.QuietTactic
namespace Go.Proofs.Ytknbehjhaaidoaa.TB
open Go.RowKit Mem HD
set_option linter.unusedVariables false
set_option linter.unusedSimpArgs false

theorem slot_at {h i N : Nat} (hp : Pow N) (hi : i < N) (hh : h < 18446744073709551616) :
    wrap64 (bits .and .u64 (IntKind.u64.wrap ((h : Int) + IntKind.u64.wrap (i : Int))) (IntKind.u64.wrap (wrap64 ((N : Int) - 1)))) = (((h + i) % N : Nat) : Int) := by
  have hb := hp.bd
  obtain ⟨e, h1, h2, hN⟩ := hp
  have e1 : IntKind.u64.wrap (wrap64 ((N : Int) - 1)) = ((2 ^ e - 1 : Nat) : Int) := by
    rw [IntWalk.wrap64_in _ (by omega), IntWalk.u64_in _ (by omega)]
    rw [← hN]
    omega
  have e2 : IntKind.u64.wrap ((h : Int) + IntKind.u64.wrap (i : Int)) = (((h + i) % 18446744073709551616 : Nat) : Int) := by
    rw [IntWalk.u64_in (i : Int) (by omega), IntKind.wrap_u64]
    omega
  have h3 : (h + i) % N < N := Nat.mod_lt _ (by omega)
  rw [e1, e2, bits_and_u64_nat _ _ (Nat.mod_lt _ (by decide)) (by rw [← hN]; omega), Nat.and_two_pow_sub_one_eq_mod, show (18446744073709551616 : Nat) = 2 ^ 64 from rfl, Nat.mod_mod_of_dvd _ (Nat.pow_dvd_pow 2 (by omega)), ← hN]
  exact IntWalk.wrap64_in _ (by omega)
/-- A place, or -1. -/
def optI : Option Nat → Int
  | some n => (n : Int)
  | none => -1
/-- The way's rest behind a look at a slot. -/
def aft (l : List Sl) (h : Nat) (k : Key) (i n : Nat) (f : Option Nat) : Sl → Option Nat × Option Nat × Nat
  | .tomb => probe l h k (l.length - (i + 1)) (i + 1) (some (f.getD n))
  | .full k' _ => if k' = k then (some n, f, i + 1) else probe l h k (l.length - (i + 1)) (i + 1) f
  | .empty => (none, some (f.getD n), i + 1)
theorem aft_full (l : List Sl) (h : Nat) (k : Key) (i n : Nat) (f : Option Nat) (k' : Key) (v' : Ent) : aft l h k i n f (.full k' v') = if k' = k then (some n, f, i + 1) else probe l h k (l.length - (i + 1)) (i + 1) f := rfl
theorem probe_step {l : List Sl} {h i n : Nat} (k : Key) {s : Sl} (hi : i < l.length) (hn : n = (h + i) % l.length) (hs : l[n]? = some s) (f : Option Nat) : probe l h k (l.length - i) i f = aft l h k i n f s := by
  rw [show l.length - i = (l.length - (i + 1)) + 1 by omega]
  conv => lhs; unfold probe
  rw [← hn]
  simp only [hs]
  cases s <;> rfl
def FI (w : World) (l : List Sl) (h : Nat) (k : Key) (v7 v25 : Value) (wr : World) : Prop :=
  ∃ (i : Nat) (f : Option Nat) (q : Nat), i ≤ l.length ∧ v7 = .int .i64 (optI f) ∧ v25 = .int .i64 (i : Int) ∧ probe l h k l.length 0 none = probe l h k (l.length - i) i f ∧ (∀ g, f = some g → g < l.length) ∧ wr = w.drewN q
set_option maxRecDepth 100000 in
set_option maxHeartbeats 4000000 in
theorem find_any {w : World} {ga gs u t : Nat} {l : List Sl} (ha : ArrAt w ga gs l u t) (hp : Pow l.length) {h : Nat} (hh : h < 18446744073709551616) (k : Key) :
    Calls Try.prog 102 #[.pointer (some ⟨ga, 0, none⟩), .int .u64 (h : Int), .agg k.L.toArray] w fun e w' =>
      e = .returned (.tuple #[.int .i64 (optI (find l h k).1), .int .i64 (optI (find l h k).2.1), .int .i64 ((find l h k).2.2 : Int)]) ∧ Mod no w w' := by
  have HA := Lib.hid ha
  have HP := Lib.hid hp
  have HH := Lib.hid hh
  have a0 := (ha.a.alloc (.cells k.L.toArray 39)).cell 0
  have hnn : ga < w.heap.size := ha.a.lt
  clear ha hp hh
  go_enter Try.func102, Try.ntmps102
  go_wp2_with fail
  obtain ⟨mk, hmk⟩ : ∃ mk, mk = IntKind.u64.wrap (wrap64 ((l.length : Int) - 1)) := ⟨_, rfl⟩
  rw [← hmk]
  have HMK := Lib.hid hmk
  obtain ⟨w1, hw1⟩ : ∃ w1, w1 = w.alloc (.cells k.L.toArray 39) := ⟨_, rfl⟩
  have ha1 : ArrAt w1 ga gs l u t := by rw [hw1]; exact HA.out.mod ((Mod.refl no w).alloc _) (fun c => c) (fun c => c)
  have hb1 : Blk w1 w.heap.size 39 k.L.toArray := by rw [hw1]; exact Blk.new w _ _
  have hm1 : Mod no w w1 := by rw [hw1]; exact (Mod.refl no w).alloc _
  rw [← hw1]
  have H1 := Lib.hid (And.intro ha1 (And.intro hb1 hm1))
  clear hmk hw1 ha1 hb1 hm1 a0 hnn
  obtain ⟨gk, hgk⟩ : ∃ gk, gk = w.heap.size := ⟨_, rfl⟩
  rw [← hgk] at H1 ⊢
  clear hgk
  go_loopw [7, 25] (FI w1 l h k) (fun _ v _ => l.length - (intOf v).toNat)
  case atStart => exact ⟨0, none, 0, Nat.zero_le _, rfl, rfl, by rw [Nat.sub_zero], fun g hg => (nomatch hg), rfl⟩
  case round =>
    obtain ⟨i, f, q, hi, rfl, rfl, hpr, hf, hw⟩ := hrel
    have hM : Mod no w1 wr := by rw [hw]; exact (Mod.refl no w1).drewN q
    have HW := Lib.hid (And.intro hw (And.intro hM (And.intro hpr hf)))
    by_cases hlt : i < l.length
    · obtain ⟨n, hn⟩ : ∃ n, n = (h + i) % l.length := ⟨_, rfl⟩
      have hnl : n < l.length := by rw [hn]; exact Nat.mod_lt _ (by omega)
      obtain ⟨s, hs⟩ : ∃ s, l[n]? = some s := ⟨_, List.getElem?_eq_getElem hnl⟩
      have har := H1.out.1.mod hM (fun c => c) (fun c => c)
      have c0 := har.a.cell 0
      have c1 := har.st hs
      have g1 : (i : Int) < (l.length : Int) := by omega
      have g2 : (n : Int) < (l.length : Int) := by omega
      have g3 : ¬ (n : Int) < 0 := by omega
      have hx := slot_at HP.out hlt HH.out
      rw [← hn, ← HMK.out] at hx
      have HX := Lib.hid (And.intro hlt (And.intro hn hs))
      have hrk := har.key hs
      have hk2 : wr.rangeAt gk 0 k.L := fun j v hv => by
        rw [Nat.zero_add, (H1.out.2.1.mod hM (fun c => c)).cell, List.getElem?_toArray]
        exact hv
      obtain ⟨fv, hfv⟩ : ∃ fv, fv = optI f := ⟨_, rfl⟩
      rw [← hfv] at ⊢
      have HF := Lib.hid hfv
      have HK := Lib.hid (And.intro hrk hk2)
      have w1' : wrap64 ((i : Int) + 1) = (i : Int) + 1 := IntWalk.wrap64_in _ (by have := HP.out.bd; omega)
      have HM := Lib.hid (show Mod no w w1 ∧ Mod no w1 wr from ⟨H1.out.2.2, hM⟩)
      have hst := probe_step k hlt hn hs f
      clear hfv hrk hk2 hpr hf hw hM har hi hlt hn
      have hfc : (f = none ∧ fv < 0) ∨ (∃ g, f = some g ∧ ¬ fv < 0) := by
        cases f with
        | none => exact .inl ⟨rfl, by rw [HF.out]; decide⟩
        | some g => exact .inr ⟨g, rfl, by rw [HF.out]; show ¬ (g : Int) < 0; omega⟩
      have hfin : find l h k = aft l h k i n f s := HW.out.2.2.1.trans hst
      have HS := Lib.hid hfin
      clear hst hfin
      cases s with
      | empty =>
        clear hs
        have c1' : wr.cell? ⟨gs, n * 37, none⟩ = some (.int .u8 0) := c1
        clear c1
        rcases hfc with ⟨rfl, h1⟩ | ⟨g, rfl, h1⟩
        · go_wp2_with fail
          refine bodyPost_ret (v := .tuple #[.int .i64 (-1), .int .i64 (n : Int), .int .i64 ((i : Int) + 1)]) (by simp [results, Try.results102, go_sem]) rfl ⟨?_, HM.out.1.and_then HM.out.2⟩
          rw [HS.out]
          rfl
        · go_wp2_with fail
          refine bodyPost_ret (v := .tuple #[.int .i64 (-1), .int .i64 fv, .int .i64 ((i : Int) + 1)]) (by simp [results, Try.results102, go_sem]) rfl ⟨?_, HM.out.1.and_then HM.out.2⟩
          rw [HS.out, HF.out]
          rfl
      | tomb =>
        clear hs
        have c1' : wr.cell? ⟨gs, n * 37, none⟩ = some (.int .u8 2) := c1
        clear c1
        rcases hfc with ⟨rfl, h1⟩ | ⟨g, rfl, h1⟩
        · go_wp2_with fail
          go_roundw
          case rel => exact ⟨i + 1, some n, q, HX.out.1, by first | rfl | (rw [hx]; rfl), by go_num, HS.out, fun g hg => by injection hg with hg; rw [← hg]; exact hnl, HW.out.1⟩
          case measure =>
            have := HX.out.1
            try rw [w1']
            clear w1'
            show l.length - ((i : Int) + 1).toNat < l.length - ((i : Int)).toNat
            omega
        · go_wp2_with fail
          go_roundw
          case rel => exact ⟨i + 1, some g, q, HX.out.1, by rw [HF.out], by go_num, HS.out, HW.out.2.2.2, HW.out.1⟩
          case measure =>
            have := HX.out.1
            try rw [w1']
            clear w1'
            show l.length - ((i : Int) + 1).toNat < l.length - ((i : Int)).toNat
            omega
      | full k' v' =>
        clear hs
        have c1' : wr.cell? ⟨gs, n * 37, none⟩ = some (.int .u8 1) := c1
        have hk1 : wr.rangeAt gs (n * 37 + 1) k'.L := HK.out.1
        have hk2 := HK.out.2
        have HKR := Lib.hid (And.intro hk1 hk2)
        clear c1 hk1 hk2
        go_wp2_with fail
        have hk1 := HKR.out.1
        have hk2 := HKR.out.2
        refine wp_region_held_drew (S := fun w' => w'.rangeAt gs (n * 37 + 1) (k').L ∧ w'.rangeAt gk 0 k.L) (by kernel_rfl) ⟨hk1, hk2⟩ (fun hHeld => ?_)
        refine takeD (i := 0) (d := some 63) (v := (.pointer (some ⟨gs, n * 37, none⟩))) rfl (by kernel_rfl) (by kernel_rfl) (by kernel_rfl) rfl (fun _ _ _ h => h) (Or.inl ⟨by kernel_rfl, fun w9 hw => y_move rfl rfl⟩) hHeld ?_
        simp only [Act.put, List.setIfInBounds_toArray, List.set_cons_zero, List.set_cons_succ]
        refine takeD (i := 1) (d := some 64) (v := (.pointer (some ⟨gs, n * 37, none⟩))) rfl (by kernel_rfl) (by kernel_rfl) (by kernel_rfl) rfl (fun _ _ _ h => h) (Or.inl ⟨by kernel_rfl, fun w9 hw => y_nil rfl rfl⟩) hHeld ?_
        simp only [Act.put, List.setIfInBounds_toArray, List.set_cons_zero, List.set_cons_succ]
        refine takeD (i := 2) (d := some 65) (v := (.pointer (some ⟨gs, n * 37 + 1, none⟩))) rfl (by kernel_rfl) (by kernel_rfl) (by kernel_rfl) rfl (fun _ _ _ h => h) (Or.inl ⟨by kernel_rfl, fun w9 hw => y_sk rfl rfl⟩) hHeld ?_
        simp only [Act.put, List.setIfInBounds_toArray, List.set_cons_zero, List.set_cons_succ]
        refine takeD (i := 3) (d := some 66) (v := (.agg (k').L.toArray)) rfl (by kernel_rfl) (by kernel_rfl) (by kernel_rfl) rfl (fun _ _ _ h => h) (Or.inl ⟨by kernel_rfl, fun w9 hw => y_key rfl rfl hw.1⟩) hHeld ?_
        simp only [Act.put, List.setIfInBounds_toArray, List.set_cons_zero, List.set_cons_succ]
        refine takeD (i := 4) (d := some 67) (v := (.agg k.L.toArray)) rfl (by kernel_rfl) (by kernel_rfl) (by kernel_rfl) rfl (fun _ _ _ h => h) (Or.inl ⟨by kernel_rfl, fun w9 hw => y_key rfl rfl hw.2⟩) hHeld ?_
        simp only [Act.put, List.setIfInBounds_toArray, List.set_cons_zero, List.set_cons_succ]
        refine takeD (i := 5) (d := some 68) (v := (.bool (decide (k' = k)))) rfl (by kernel_rfl) (by kernel_rfl) (by kernel_rfl) rfl (fun _ _ _ h => h) (Or.inl ⟨by kernel_rfl, fun w9 hw => y_eqK rfl rfl rfl⟩) hHeld ?_
        simp only [Act.put, List.setIfInBounds_toArray, List.set_cons_zero, List.set_cons_succ]
        refine takeD (i := 6) (d := some 62) (v := (.bool (decide (k' = k)))) rfl (by kernel_rfl) (by kernel_rfl) (by kernel_rfl) rfl (fun _ _ _ h => h) (Or.inl ⟨by kernel_rfl, fun w9 hw => y_assign rfl rfl⟩) hHeld ?_
        simp only [Act.put, List.setIfInBounds_toArray, List.set_cons_zero, List.set_cons_succ]
        refine wpAnyH_done (by kernel_rfl) ?_ _
        by_cases hkk : k' = k
        · have hdk : decide (k' = k) = true := decide_eq_true hkk
          rw [hdk]
          have HD := Lib.hid hkk
          clear hkk hk1 hk2 hdk
          go_wp2_with fail
          refine bodyPost_ret (v := .tuple #[.int .i64 (n : Int), .int .i64 fv, .int .i64 ((i : Int) + 1)]) (by simp [results, Try.results102, go_sem]; exact IntWalk.wrap64_in _ (by have := HP.out.bd; have := HX.out.1; omega)) rfl ⟨?_, (HM.out.1.and_then HM.out.2).drew⟩
          rw [HS.out, HF.out]
          rw [aft_full, if_pos HD.out]
          rfl
        · have hdk : decide (k' = k) = false := decide_eq_false hkk
          rw [hdk]
          have HD := Lib.hid hkk
          clear hkk hk1 hk2 hdk
          go_wp2_with fail
          go_roundw
          case rel =>
            have h5 := HS.out
            rw [aft_full, if_neg HD.out] at h5
            exact ⟨i + 1, f, q + 1, HX.out.1, by rw [HF.out], by go_num, h5, HW.out.2.2.2, by rw [HW.out.1]; rfl⟩
          case measure =>
            have := HX.out.1
            try rw [w1']
            clear w1'
            show l.length - ((i : Int) + 1).toNat < l.length - ((i : Int)).toNat
            omega
    · obtain rfl : i = l.length := by omega
      have g1 : ¬ (l.length : Int) < (l.length : Int) := by omega
      have har := H1.out.1.mod hM (fun c => c) (fun c => c)
      have c0 := har.a.cell 0
      have HM := Lib.hid (show Mod no w w1 ∧ Mod no w1 wr from ⟨H1.out.2.2, hM⟩)
      obtain ⟨fv, hfv⟩ : ∃ fv, fv = optI f := ⟨_, rfl⟩
      rw [← hfv] at ⊢
      have HF := Lib.hid hfv
      rw [Nat.sub_self] at hpr
      have HS := Lib.hid (show find l h k = (none, f, l.length) from hpr)
      clear hi hlt hpr hf hw hM har hfv
      go_wp2_with fail
      go_quiet (fail)
      go_wp2_with fail
      refine bodyPost_ret (v := .tuple #[.int .i64 (-1), .int .i64 fv, .int .i64 (l.length : Int)]) (by simp [results, Try.results102, go_sem]) rfl ⟨?_, (HM.out.1.and_then HM.out.2).drewN _⟩
      rw [HS.out, HF.out]
      rfl
end Go.Proofs.Ytknbehjhaaidoaa.TB

