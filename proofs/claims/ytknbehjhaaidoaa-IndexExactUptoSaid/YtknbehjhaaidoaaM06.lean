/- IndexExact: the texts TbB TbC TbD TbH of this seat, one behind the other. -/
import Derived.Test.YtknbehjhaaidoaaM05
import Derived.BigQuiet
import Derived.Deep.QuietTactic
/- A table's find: a key's way. -/
namespace Go.Proofs.Ytknbehjhaaidoaa.TB
open Go.RowKit Mem HD
set_option linter.unusedVariables false
set_option linter.unusedSimpArgs false

theorem slot_at {h i N : Nat} (hp : Pow N) (hi : i < N) (hh : h < 18446744073709551616) :
    wrap64 (bits .and .u64 (IntKind.u64.wrap ((h : Int) + IntKind.u64.wrap (i : Int))) (IntKind.u64.wrap (wrap64 ((N : Int) - 1)))) = (((h + i) % N : Nat) : Int) := by
  have hb := hp.bd
  obtain ⟨e, h1, h2, hN⟩ := hp
  have e1 : IntKind.u64.wrap (wrap64 ((N : Int) - 1)) = ((2 ^ e - 1 : Nat) : Int) := by
    rw [IntWalk.wrap64_in _ (by omega), IntWalk.u64_in _ (by omega)]
    rw [← hN]
    omega
  have e2 : IntKind.u64.wrap ((h : Int) + IntKind.u64.wrap (i : Int)) = (((h + i) % 18446744073709551616 : Nat) : Int) := by
    rw [IntWalk.u64_in (i : Int) (by omega), IntKind.wrap_u64]
    omega
  have h3 : (h + i) % N < N := Nat.mod_lt _ (by omega)
  rw [e1, e2, bits_and_u64_nat _ _ (Nat.mod_lt _ (by decide)) (by rw [← hN]; omega), Nat.and_two_pow_sub_one_eq_mod, show (18446744073709551616 : Nat) = 2 ^ 64 from rfl, Nat.mod_mod_of_dvd _ (Nat.pow_dvd_pow 2 (by omega)), ← hN]
  exact IntWalk.wrap64_in _ (by omega)
/-- A place, or -1. -/
def optI : Option Nat → Int
  | some n => (n : Int)
  | none => -1
/-- The way's rest behind a look at a slot. -/
def aft (l : List Sl) (h : Nat) (k : Key) (i n : Nat) (f : Option Nat) : Sl → Option Nat × Option Nat × Nat
  | .tomb => probe l h k (l.length - (i + 1)) (i + 1) (some (f.getD n))
  | .full k' _ => if k' = k then (some n, f, i + 1) else probe l h k (l.length - (i + 1)) (i + 1) f
  | .empty => (none, some (f.getD n), i + 1)
theorem aft_full (l : List Sl) (h : Nat) (k : Key) (i n : Nat) (f : Option Nat) (k' : Key) (v' : Ent) : aft l h k i n f (.full k' v') = if k' = k then (some n, f, i + 1) else probe l h k (l.length - (i + 1)) (i + 1) f := rfl
theorem probe_step {l : List Sl} {h i n : Nat} (k : Key) {s : Sl} (hi : i < l.length) (hn : n = (h + i) % l.length) (hs : l[n]? = some s) (f : Option Nat) : probe l h k (l.length - i) i f = aft l h k i n f s := by
  rw [show l.length - i = (l.length - (i + 1)) + 1 by omega]
  conv => lhs; unfold probe
  rw [← hn]
  simp only [hs]
  cases s <;> rfl
def FI (w : World) (l : List Sl) (h : Nat) (k : Key) (v7 v25 : Value) (wr : World) : Prop :=
  ∃ (i : Nat) (f : Option Nat) (q : Nat), i ≤ l.length ∧ v7 = .int .i64 (optI f) ∧ v25 = .int .i64 (i : Int) ∧ probe l h k l.length 0 none = probe l h k (l.length - i) i f ∧ (∀ g, f = some g → g < l.length) ∧ wr = w.drewN q
set_option maxRecDepth 100000 in
set_option maxHeartbeats 4000000 in
theorem find_any {w : World} {ga gs u t : Nat} {l : List Sl} (ha : ArrAt w ga gs l u t) (hp : Pow l.length) {h : Nat} (hh : h < 18446744073709551616) (k : Key) :
    Calls Try.prog 102 #[.pointer (some ⟨ga, 0, none⟩), .int .u64 (h : Int), .agg k.L.toArray] w fun e w' =>
      e = .returned (.tuple #[.int .i64 (optI (find l h k).1), .int .i64 (optI (find l h k).2.1), .int .i64 ((find l h k).2.2 : Int)]) ∧ Mod no w w' := by
  have HA := Lib.hid ha
  have HP := Lib.hid hp
  have HH := Lib.hid hh
  have a0 := (ha.a.alloc (.cells k.L.toArray 39)).cell 0
  have hnn : ga < w.heap.size := ha.a.lt
  clear ha hp hh
  go_enter Try.func102, Try.ntmps102
  go_wp2_with fail
  obtain ⟨mk, hmk⟩ : ∃ mk, mk = IntKind.u64.wrap (wrap64 ((l.length : Int) - 1)) := ⟨_, rfl⟩
  rw [← hmk]
  have HMK := Lib.hid hmk
  obtain ⟨w1, hw1⟩ : ∃ w1, w1 = w.alloc (.cells k.L.toArray 39) := ⟨_, rfl⟩
  have ha1 : ArrAt w1 ga gs l u t := by rw [hw1]; exact HA.out.mod ((Mod.refl no w).alloc _) (fun c => c) (fun c => c)
  have hb1 : Blk w1 w.heap.size 39 k.L.toArray := by rw [hw1]; exact Blk.new w _ _
  have hm1 : Mod no w w1 := by rw [hw1]; exact (Mod.refl no w).alloc _
  rw [← hw1]
  have H1 := Lib.hid (And.intro ha1 (And.intro hb1 hm1))
  clear hmk hw1 ha1 hb1 hm1 a0 hnn
  obtain ⟨gk, hgk⟩ : ∃ gk, gk = w.heap.size := ⟨_, rfl⟩
  rw [← hgk] at H1 ⊢
  clear hgk
  go_loopw [7, 25] (FI w1 l h k) (fun _ v _ => l.length - (intOf v).toNat)
  case atStart => exact ⟨0, none, 0, Nat.zero_le _, rfl, rfl, by rw [Nat.sub_zero], fun g hg => (nomatch hg), rfl⟩
  case round =>
    obtain ⟨i, f, q, hi, rfl, rfl, hpr, hf, hw⟩ := hrel
    have hM : Mod no w1 wr := by rw [hw]; exact (Mod.refl no w1).drewN q
    have HW := Lib.hid (And.intro hw (And.intro hM (And.intro hpr hf)))
    by_cases hlt : i < l.length
    · obtain ⟨n, hn⟩ : ∃ n, n = (h + i) % l.length := ⟨_, rfl⟩
      have hnl : n < l.length := by rw [hn]; exact Nat.mod_lt _ (by omega)
      obtain ⟨s, hs⟩ : ∃ s, l[n]? = some s := ⟨_, List.getElem?_eq_getElem hnl⟩
      have har := H1.out.1.mod hM (fun c => c) (fun c => c)
      have c0 := har.a.cell 0
      have c1 := har.st hs
      have g1 : (i : Int) < (l.length : Int) := by omega
      have g2 : (n : Int) < (l.length : Int) := by omega
      have g3 : ¬ (n : Int) < 0 := by omega
      have hx := slot_at HP.out hlt HH.out
      rw [← hn, ← HMK.out] at hx
      have HX := Lib.hid (And.intro hlt (And.intro hn hs))
      have hrk := har.key hs
      have hk2 : wr.rangeAt gk 0 k.L := fun j v hv => by
        rw [Nat.zero_add, (H1.out.2.1.mod hM (fun c => c)).cell, List.getElem?_toArray]
        exact hv
      obtain ⟨fv, hfv⟩ : ∃ fv, fv = optI f := ⟨_, rfl⟩
      rw [← hfv] at ⊢
      have HF := Lib.hid hfv
      have HK := Lib.hid (And.intro hrk hk2)
      have w1' : wrap64 ((i : Int) + 1) = (i : Int) + 1 := IntWalk.wrap64_in _ (by have := HP.out.bd; omega)
      have HM := Lib.hid (show Mod no w w1 ∧ Mod no w1 wr from ⟨H1.out.2.2, hM⟩)
      have hst := probe_step k hlt hn hs f
      clear hfv hrk hk2 hpr hf hw hM har hi hlt hn
      have hfc : (f = none ∧ fv < 0) ∨ (∃ g, f = some g ∧ ¬ fv < 0) := by
        cases f with
        | none => exact .inl ⟨rfl, by rw [HF.out]; decide⟩
        | some g => exact .inr ⟨g, rfl, by rw [HF.out]; show ¬ (g : Int) < 0; omega⟩
      have hfin : find l h k = aft l h k i n f s := HW.out.2.2.1.trans hst
      have HS := Lib.hid hfin
      clear hst hfin
      cases s with
      | empty =>
        clear hs
        have c1' : wr.cell? ⟨gs, n * 37, none⟩ = some (.int .u8 0) := c1
        clear c1
        rcases hfc with ⟨rfl, h1⟩ | ⟨g, rfl, h1⟩
        · go_wp2_with fail
          refine bodyPost_ret (v := .tuple #[.int .i64 (-1), .int .i64 (n : Int), .int .i64 ((i : Int) + 1)]) (by simp [results, Try.results102, go_sem]) rfl ⟨?_, HM.out.1.and_then HM.out.2⟩
          rw [HS.out]
          rfl
        · go_wp2_with fail
          refine bodyPost_ret (v := .tuple #[.int .i64 (-1), .int .i64 fv, .int .i64 ((i : Int) + 1)]) (by simp [results, Try.results102, go_sem]) rfl ⟨?_, HM.out.1.and_then HM.out.2⟩
          rw [HS.out, HF.out]
          rfl
      | tomb =>
        clear hs
        have c1' : wr.cell? ⟨gs, n * 37, none⟩ = some (.int .u8 2) := c1
        clear c1
        rcases hfc with ⟨rfl, h1⟩ | ⟨g, rfl, h1⟩
        · go_wp2_with fail
          go_roundw
          case rel => exact ⟨i + 1, some n, q, HX.out.1, by first | rfl | (rw [hx]; rfl), by go_num, HS.out, fun g hg => by injection hg with hg; rw [← hg]; exact hnl, HW.out.1⟩
          case measure =>
            have := HX.out.1
            try rw [w1']
            clear w1'
            show l.length - ((i : Int) + 1).toNat < l.length - ((i : Int)).toNat
            omega
        · go_wp2_with fail
          go_roundw
          case rel => exact ⟨i + 1, some g, q, HX.out.1, by rw [HF.out], by go_num, HS.out, HW.out.2.2.2, HW.out.1⟩
          case measure =>
            have := HX.out.1
            try rw [w1']
            clear w1'
            show l.length - ((i : Int) + 1).toNat < l.length - ((i : Int)).toNat
            omega
      | full k' v' =>
        clear hs
        have c1' : wr.cell? ⟨gs, n * 37, none⟩ = some (.int .u8 1) := c1
        have hk1 : wr.rangeAt gs (n * 37 + 1) k'.L := HK.out.1
        have hk2 := HK.out.2
        have HKR := Lib.hid (And.intro hk1 hk2)
        clear c1 hk1 hk2
        go_wp2_with fail
        have hk1 := HKR.out.1
        have hk2 := HKR.out.2
        refine wp_region_held_drew (S := fun w' => w'.rangeAt gs (n * 37 + 1) (k').L ∧ w'.rangeAt gk 0 k.L) (by kernel_rfl) ⟨hk1, hk2⟩ (fun hHeld => ?_)
        refine takeD (i := 0) (d := some 63) (v := (.pointer (some ⟨gs, n * 37, none⟩))) rfl (by kernel_rfl) (by kernel_rfl) (by kernel_rfl) rfl (fun _ _ _ h => h) (Or.inl ⟨by kernel_rfl, fun w9 hw => y_move rfl rfl⟩) hHeld ?_
        simp only [Act.put, List.setIfInBounds_toArray, List.set_cons_zero, List.set_cons_succ]
        refine takeD (i := 1) (d := some 64) (v := (.pointer (some ⟨gs, n * 37, none⟩))) rfl (by kernel_rfl) (by kernel_rfl) (by kernel_rfl) rfl (fun _ _ _ h => h) (Or.inl ⟨by kernel_rfl, fun w9 hw => y_nil rfl rfl⟩) hHeld ?_
        simp only [Act.put, List.setIfInBounds_toArray, List.set_cons_zero, List.set_cons_succ]
        refine takeD (i := 2) (d := some 65) (v := (.pointer (some ⟨gs, n * 37 + 1, none⟩))) rfl (by kernel_rfl) (by kernel_rfl) (by kernel_rfl) rfl (fun _ _ _ h => h) (Or.inl ⟨by kernel_rfl, fun w9 hw => y_sk rfl rfl⟩) hHeld ?_
        simp only [Act.put, List.setIfInBounds_toArray, List.set_cons_zero, List.set_cons_succ]
        refine takeD (i := 3) (d := some 66) (v := (.agg (k').L.toArray)) rfl (by kernel_rfl) (by kernel_rfl) (by kernel_rfl) rfl (fun _ _ _ h => h) (Or.inl ⟨by kernel_rfl, fun w9 hw => y_key rfl rfl hw.1⟩) hHeld ?_
        simp only [Act.put, List.setIfInBounds_toArray, List.set_cons_zero, List.set_cons_succ]
        refine takeD (i := 4) (d := some 67) (v := (.agg k.L.toArray)) rfl (by kernel_rfl) (by kernel_rfl) (by kernel_rfl) rfl (fun _ _ _ h => h) (Or.inl ⟨by kernel_rfl, fun w9 hw => y_key rfl rfl hw.2⟩) hHeld ?_
        simp only [Act.put, List.setIfInBounds_toArray, List.set_cons_zero, List.set_cons_succ]
        refine takeD (i := 5) (d := some 68) (v := (.bool (decide (k' = k)))) rfl (by kernel_rfl) (by kernel_rfl) (by kernel_rfl) rfl (fun _ _ _ h => h) (Or.inl ⟨by kernel_rfl, fun w9 hw => y_eqK rfl rfl rfl⟩) hHeld ?_
        simp only [Act.put, List.setIfInBounds_toArray, List.set_cons_zero, List.set_cons_succ]
        refine takeD (i := 6) (d := some 62) (v := (.bool (decide (k' = k)))) rfl (by kernel_rfl) (by kernel_rfl) (by kernel_rfl) rfl (fun _ _ _ h => h) (Or.inl ⟨by kernel_rfl, fun w9 hw => y_assign rfl rfl⟩) hHeld ?_
        simp only [Act.put, List.setIfInBounds_toArray, List.set_cons_zero, List.set_cons_succ]
        refine wpAnyH_done (by kernel_rfl) ?_ _
        by_cases hkk : k' = k
        · have hdk : decide (k' = k) = true := decide_eq_true hkk
          rw [hdk]
          have HD := Lib.hid hkk
          clear hkk hk1 hk2 hdk
          go_wp2_with fail
          refine bodyPost_ret (v := .tuple #[.int .i64 (n : Int), .int .i64 fv, .int .i64 ((i : Int) + 1)]) (by simp [results, Try.results102, go_sem]; exact IntWalk.wrap64_in _ (by have := HP.out.bd; have := HX.out.1; omega)) rfl ⟨?_, (HM.out.1.and_then HM.out.2).drew⟩
          rw [HS.out, HF.out]
          rw [aft_full, if_pos HD.out]
          rfl
        · have hdk : decide (k' = k) = false := decide_eq_false hkk
          rw [hdk]
          have HD := Lib.hid hkk
          clear hkk hk1 hk2 hdk
          go_wp2_with fail
          go_roundw
          case rel =>
            have h5 := HS.out
            rw [aft_full, if_neg HD.out] at h5
            exact ⟨i + 1, f, q + 1, HX.out.1, by rw [HF.out], by go_num, h5, HW.out.2.2.2, by rw [HW.out.1]; rfl⟩
          case measure =>
            have := HX.out.1
            try rw [w1']
            clear w1'
            show l.length - ((i : Int) + 1).toNat < l.length - ((i : Int)).toNat
            omega
    · obtain rfl : i = l.length := by omega
      have g1 : ¬ (l.length : Int) < (l.length : Int) := by omega
      have har := H1.out.1.mod hM (fun c => c) (fun c => c)
      have c0 := har.a.cell 0
      have HM := Lib.hid (show Mod no w w1 ∧ Mod no w1 wr from ⟨H1.out.2.2, hM⟩)
      obtain ⟨fv, hfv⟩ : ∃ fv, fv = optI f := ⟨_, rfl⟩
      rw [← hfv] at ⊢
      have HF := Lib.hid hfv
      rw [Nat.sub_self] at hpr
      have HS := Lib.hid (show find l h k = (none, f, l.length) from hpr)
      clear hi hlt hpr hf hw hM har hfv
      go_wp2_with fail
      go_quiet (fail)
      go_wp2_with fail
      refine bodyPost_ret (v := .tuple #[.int .i64 (-1), .int .i64 fv, .int .i64 (l.length : Int)]) (by simp [results, Try.results102, go_sem]) rfl ⟨?_, (HM.out.1.and_then HM.out.2).drewN _⟩
      rw [HS.out, HF.out]
      rfl
end Go.Proofs.Ytknbehjhaaidoaa.TB

/- A table's bury and lay. -/
namespace Go.Proofs.Ytknbehjhaaidoaa.TB
open Go.RowKit Mem HD
set_option linter.unusedVariables false
set_option linter.unusedSimpArgs false

def two (a b : Nat) (k : Nat) : Prop := k = a ∨ k = b
theorem blk_there {w : World} {g : Nat} {t : TypeId} {cs : Array Value} (h : Blk w g t cs) (o n : Nat) (hn : o + n ≤ cs.size) : w.there g o n := fun j hj => by
  refine ⟨?_, h.free _⟩
  rw [h.cell, Array.getElem?_eq_getElem (by omega)]
  rfl
theorem blk_range {w : World} {g : Nat} {t : TypeId} {cs : List Value} (h : Blk w g t cs.toArray) : w.rangeAt g 0 cs := fun j v hv => by
  rw [h.cell, Nat.zero_add, List.getElem?_toArray]
  exact hv
theorem cell_below {w : World} {a : Addr} {v : Value} (h : w.cell? a = some v) : a.block < w.heap.size := by
  unfold World.cell? at h
  split at h
  · split at h
    · simp at h
    · rename_i hs
      rcases Nat.lt_or_ge a.block w.heap.size with c | c
      · exact c
      · simp_all
  · simp at h
theorem ret_one {P : Program} {fn : Func} {p : Tmp} {ty : TypeId} (h : fn.results = #[.cell p ty]) (tmps : Array Value) (w : World) (b : Nat) (C : List Value) (d : TypeDesc) (hp : tmps.getD p undef = .pointer (some ⟨b, 0, none⟩)) (hc : w.rangeAt b 0 C)
    (hu : P.underlying ty = some d) (hd : d.isRow = true) (hi : (P.info? ty).map (·.size) = some C.length) : (results fn tmps).run P w = .ok (.agg C.toArray) w := by
  have hp' : tmps[p]?.getD undef = .pointer (some ⟨b, 0, none⟩) := by simpa using hp
  simp [results, h, hp', asAddr, run_loadVar_mid (P := P) w b 0 ty C d hc hu hd hi]
set_option maxRecDepth 100000 in
set_option maxHeartbeats 4000000 in
theorem bury_any {w : World} {ga gs u t n : Nat} {l : List Sl} {s : Sl} (ha : ArrAt w ga gs l (u + 1) t) (hs : l[n]? = some s) (hu : u + 1 ≤ 1099511627776) (ht : t ≤ 1099511627776) :
    Calls Try.prog 88 #[.pointer (some ⟨ga, 0, none⟩), .int .i64 (n : Int)] w fun e w' => e = .returned (.agg (entO s).L.toArray) ∧ ArrAt w' ga gs (l.set n .tomb) u (t + 1) ∧ Mod (two ga gs) w w' := by
  have hnl : n < l.length := (List.getElem?_eq_some_iff.1 hs).1
  have hm1 : Mod no w ((w.alloc (.cells #[.int .i64 0, .int .i64 0, .int .i64 0, .int .u32 0] 56)).alloc (.cells #[.int .i64 0, .int .i64 0, .int .i64 0, .int .u32 0] 56)) := ((Mod.refl no w).alloc _).alloc _
  have hb4 := (Blk.new w 56 #[.int .i64 0, .int .i64 0, .int .i64 0, .int .u32 0]).alloc (.cells #[.int .i64 0, .int .i64 0, .int .i64 0, .int .u32 0] 56)
  have hb5 := Blk.new_at (n := w.heap.size + 1) (w.alloc (.cells #[.int .i64 0, .int .i64 0, .int .i64 0, .int .u32 0] 56)) 56 #[.int .i64 0, .int .i64 0, .int .i64 0, .int .u32 0] (by simp)
  have ha1 := ha.mod hm1 (fun c => c) (fun c => c)
  have ha0 := ha.mod ((Mod.refl no w).alloc (.cells #[.int .i64 0, .int .i64 0, .int .i64 0, .int .u32 0] 56)) (fun c => c) (fun c => c)
  have c0 := ha0.a.cell 0
  have g1 : (n : Int) < (l.length : Int) := by omega
  have g2 : ¬ (n : Int) < 0 := by omega
  have HR := Lib.hid ((ha0.ent hs))
  have HA := Lib.hid (And.intro ha1 (And.intro hb4 (And.intro hb5 hm1)))
  have HS := Lib.hid (And.intro hs (And.intro hnl (And.intro hu (And.intro ht (show ga < w.heap.size ∧ gs < w.heap.size from ⟨ha.a.lt, ha.s.lt⟩)))))
  have HNE := Lib.hid ha.ne
  have HA0 := Lib.hid ha
  clear ha0 ha1 hb4 hb5 hm1 ha hs hu ht hnl
  have HF2 := Lib.hid (show ∀ w2, w2 = World.setCells ((w.alloc (.cells #[.int .i64 0, .int .i64 0, .int .i64 0, .int .u32 0] 56)).alloc (.cells #[.int .i64 0, .int .i64 0, .int .i64 0, .int .u32 0] 56)) (w.heap.size + 1) 0 (entO s).L.toArray.toList → Mod no w w2 ∧ ArrAt w2 ga gs l (u + 1) t ∧ w2.rangeAt (w.heap.size + 1) 0 (entO s).L ∧ Blk w2 w.heap.size 56 #[.int .i64 0, .int .i64 0, .int .i64 0, .int .u32 0] from fun w2 hw2 => by
    have m2 : Mod no w w2 := by rw [hw2]; exact mod_setCells (fun c => by omega) _ _ _ HA.out.2.2.2
    have m2' : Mod (one (w.heap.size + 1)) ((w.alloc (.cells #[.int .i64 0, .int .i64 0, .int .i64 0, .int .u32 0] 56)).alloc (.cells #[.int .i64 0, .int .i64 0, .int .i64 0, .int .u32 0] 56)) w2 := by rw [hw2]; exact mod_setCells (S := one (w.heap.size + 1)) (fun _ => rfl) _ _ _ (Mod.refl _ _)
    have r5 : w2.rangeAt (w.heap.size + 1) 0 (entO s).L := by rw [hw2]; exact World.rangeAt_setCells_same _ _ _ _ (blk_there HA.out.2.2.1 0 4 (by decide))
    exact ⟨m2, HA0.out.mod m2 (fun c => c) (fun c => c), r5, HA.out.2.1.mod m2' (fun c => by have c : w.heap.size = w.heap.size + 1 := c; omega)⟩)
  have HF3 := Lib.hid (show ∀ w2 w3, (Mod no w w2 ∧ ArrAt w2 ga gs l (u + 1) t ∧ w2.rangeAt (w.heap.size + 1) 0 (entO s).L ∧ Blk w2 w.heap.size 56 #[.int .i64 0, .int .i64 0, .int .i64 0, .int .u32 0]) → w3 = World.setCells w2 gs (n * 37) (slotL .tomb).toArray.toList → Mod (one gs) w2 w3 ∧ Blk w3 gs 133 (rowL (l.set n .tomb)).flatten.toArray ∧ Blk w3 ga 136 #[.slice (some ⟨gs, 0, none⟩) l.length l.length, .int .i64 ((u + 1 : Nat) : Int), .int .i64 (t : Int)] ∧ w3.rangeAt (w.heap.size + 1) 0 (entO s).L ∧ Blk w3 w.heap.size 56 #[.int .i64 0, .int .i64 0, .int .i64 0, .int .u32 0] from fun w2 w3 HM2 hw3 => by
    have m3 : Mod (one gs) w2 w3 := by rw [hw3]; exact mod_setCells (S := one gs) (fun _ => rfl) _ _ _ (Mod.refl _ _)
    have hs3 : Blk w3 gs 133 (rowL (l.set n .tomb)).flatten.toArray := by rw [hw3]; exact HM2.2.1.put HS.out.2.1 .tomb
    have ha3 := HM2.2.1.a.mod m3 (fun c => HNE.out c)
    have r5 : w3.rangeAt (w.heap.size + 1) 0 (entO s).L := by rw [hw3]; exact range_setCells (by have := HS.out.2.2.2.2.2; omega) HM2.2.2.1 _
    have b4 := HM2.2.2.2.mod m3 (fun c => by have c : w.heap.size = gs := c; have := HS.out.2.2.2.2.2; omega)
    exact ⟨m3, hs3, ha3, r5, b4⟩)
  go_enter Try.func88, Try.ntmps88
  go_upto_region 5 with (first
    | (refine wpList_load_mid rfl 56 (.tmp 12) (by rfl) gs (n * 37 + 33) (by rfl) (entO s).L _ (by exact HR.out) Try.underlying56 rfl (ent_sizeG _) ?_)
    | (refine wpList_store_mid rfl 56 (.tmp 5) (.tmp 13) (by rfl) (w.heap.size + 1) 0 (entO s).L.toArray (by rfl) (by rfl) (by exact blk_there HA.out.2.2.1 0 4 (by decide)) (ent_sizeG _) (all_oneCell_toArray (ent_ones _)) ?_
       obtain ⟨w2, hw2⟩ : ∃ w2, w2 = World.setCells ((w.alloc (.cells #[.int .i64 0, .int .i64 0, .int .i64 0, .int .u32 0] 56)).alloc (.cells #[.int .i64 0, .int .i64 0, .int .i64 0, .int .u32 0] 56)) (w.heap.size + 1) 0 (entO s).L.toArray.toList := ⟨_, rfl⟩
       rw [← hw2]
       have HM2 := Lib.hid (HF2.out w2 hw2)
       clear hw2 c0
       have c1 := HM2.out.2.1.a.cell 0)
    | (refine wpList_op rfl (y_tomb (by rfl) (by rfl)) ?_)
    | (refine wpList_store_mid rfl 133 (.tmp 20) (.tmp 19) (by rfl) gs (n * 37) (slotL .tomb).toArray (by rfl) (by rfl) (by rw [List.size_toArray, slotL_len]; exact HM2.out.2.1.there HS.out.2.1) (slot_sizeG _) (all_oneCell_toArray (slot_ones _)) ?_
       obtain ⟨w3, hw3⟩ : ∃ w3, w3 = World.setCells w2 gs (n * 37) (slotL .tomb).toArray.toList := ⟨_, rfl⟩
       rw [← hw3]
       have HM3 := Lib.hid (HF3.out w2 w3 HM2.out hw3)
       have ha3 := HM3.out.2.2.1
       clear hw3 c1
       obtain ⟨x, hx⟩ : ∃ x : Int, x = ((u + 1 : Nat) : Int) := ⟨_, rfl⟩
       rw [← hx] at ha3
       have c1 := ha3.cell 1
       have c2 := ha3.cell 2
       have f1 := ha3.free 1
       have f2 := ha3.free 2
       have HX := Lib.hid hx
       have hw1 : wrap64 (x - 1) = (u : Int) := by rw [hx, IntWalk.wrap64_in _ (by have := HS.out.2.2.1; omega)]; omega
       have hw2 : wrap64 ((t : Int) + 1) = ((t + 1 : Nat) : Int) := by rw [IntWalk.wrap64_in _ (by have := HS.out.2.2.2.1; omega)]; omega
       clear hx ha3))
  obtain ⟨w4, hw4⟩ : ∃ w4, w4 = (w3.setCell ⟨ga, 1, none⟩ (.int .i64 (u : Int))).setCell ⟨ga, 2, none⟩ (.int .i64 ((t : Int) + 1)) := ⟨_, rfl⟩
  have m4 : Mod (one ga) w3 w4 := by rw [hw4]; exact ((Mod.refl (one ga) w3).set (p := ⟨ga, 1, none⟩) (fun _ => (rfl : one ga ga)) _).set (p := ⟨ga, 2, none⟩) (fun _ => (rfl : one ga ga)) _
  have ha4 : Blk w4 ga 136 #[.slice (some ⟨gs, 0, none⟩) l.length l.length, .int .i64 (u : Int), .int .i64 ((t : Int) + 1)] := by
    rw [hw4]
    exact (HM3.out.2.2.1.put 1 _).put 2 _
  have r4 : w4.rangeAt (w.heap.size + 1) 0 (entO s).L := fun j v hv => by
    rw [m4.cell (p := ⟨w.heap.size + 1, 0 + j, none⟩) (cell_below (HM3.out.2.2.2.1 j v hv)) (fun c => by have c : w.heap.size + 1 = ga := c; have := HS.out.2.2.2.2.1; omega)]
    exact HM3.out.2.2.2.1 j v hv
  have b4 := HM3.out.2.2.2.2.mod m4 (fun c => by have c : w.heap.size = ga := c; have := HS.out.2.2.2.2.1; omega)
  have hA4 : ArrAt w4 ga gs (l.set n .tomb) u (t + 1) := ⟨by rw [List.length_set]; exact ha4, HM3.out.2.1.mod m4 (fun c => HNE.out c.symm)⟩
  have hm4 : Mod (two ga gs) w w4 := (((HM2.out.1.mono (S' := two ga gs) (fun _ _ c => c.elim)).and_then (HM3.out.1.mono (S' := two ga gs) (fun _ _ c => .inr c)))).and_then (m4.mono (S' := two ga gs) (fun _ _ c => .inl c))
  have HE := Lib.hid (And.intro r4 (And.intro b4 (And.intro hA4 hm4)))
  rw [← hw4]
  clear hw4 m4 ha4 r4 b4 hA4 hm4 hw1 hw2 c1 c2 f1 f2
  go_wp2_with (first
    | (refine wpList_load_mid rfl 56 (.tmp 5) (by rfl) (w.heap.size + 1) 0 (by rfl) (entO s).L _ (by exact HE.out.1) Try.underlying56 rfl (ent_sizeG _) ?_)
    | (refine wpList_store_mid rfl 56 (.tmp 4) (.tmp 35) (by rfl) w.heap.size 0 (entO s).L.toArray (by rfl) (by rfl) (by exact blk_there HE.out.2.1 0 4 (by decide)) (ent_sizeG _) (all_oneCell_toArray (ent_ones _)) ?_
       obtain ⟨w5, hw5⟩ : ∃ w5, w5 = World.setCells w4 w.heap.size 0 (entO s).L.toArray.toList := ⟨_, rfl⟩
       rw [← hw5]
       have HW5 := Lib.hid hw5
       clear hw5))
  have m5 : Mod (two ga gs) w w5 := by rw [HW5.out]; exact mod_setCells (fun c => by omega) _ _ _ HE.out.2.2.2
  have m45 : Mod (one w.heap.size) w4 w5 := by rw [HW5.out]; exact mod_setCells (S := one w.heap.size) (fun _ => rfl) _ _ _ (Mod.refl _ _)
  have hA5 := HE.out.2.2.1.mod m45 (fun c => by have c : ga = w.heap.size := c; have := HS.out.2.2.2.2.1; omega) (fun c => by have c : gs = w.heap.size := c; have := HS.out.2.2.2.2.2; omega)
  have b5 : w5.rangeAt w.heap.size 0 (entO s).L := by rw [HW5.out]; exact World.rangeAt_setCells_same _ _ _ _ (blk_there HE.out.2.1 0 4 (by decide))
  exact bodyPost_ret (v := .agg (entO s).L.toArray) (ret_one (p := 4) (ty := 56) rfl _ _ w.heap.size (entO s).L _ rfl b5 Try.underlying56 rfl (ent_sizeG _)) rfl ⟨rfl, hA5, m5⟩
end Go.Proofs.Ytknbehjhaaidoaa.TB

/- A table's lay. -/
namespace Go.Proofs.Ytknbehjhaaidoaa.TB
open Go.RowKit Mem HD
set_option linter.unusedVariables false
set_option linter.unusedSimpArgs false

/-- What lay does to the tombs. -/
theorem range_mod {S : Nat → Prop} {w w' : World} {b o : Nat} {cs : List Value} (h : w.rangeAt b o cs) (m : Mod S w w') (hS : ¬ S b) : w'.rangeAt b o cs := fun j v hv => by
  have h1 := h j v hv
  rw [m.cell (p := ⟨b, o + j, none⟩) (cell_below h1) hS]
  exact h1
set_option maxRecDepth 100000 in
set_option maxHeartbeats 4000000 in
theorem lay_any {w : World} {ga gs u t g d h : Nat} {l : List Sl} {x : Sl} {k : Key} (v : Ent) (ha : ArrAt w ga gs l u (t + x.isTomb.toNat)) (hp : Pow l.length) (hh : h < 18446744073709551616) (hf : find l h k = (none, some g, d))
    (hg : l[g]? = some x) (hx : x = .empty ∨ x = .tomb) (hu : u ≤ 1099511627776) (ht : t ≤ 1099511627776) :
    Calls Try.prog 89 #[.pointer (some ⟨ga, 0, none⟩), .int .u64 (h : Int), .agg k.L.toArray, .agg v.L.toArray] w fun e w' => e = .returned (.tuple #[]) ∧ ArrAt w' ga gs (l.set g (.full k v)) (u + 1) t ∧ Mod (two ga gs) w w' := by
  have hgl : g < l.length := (List.getElem?_eq_some_iff.1 hg).1
  obtain ⟨w1, hw1⟩ : ∃ w1, w1 = (w.alloc (.cells k.L.toArray 39)).alloc (.cells v.L.toArray 56) := ⟨_, rfl⟩
  have hm1 : Mod no w w1 := by rw [hw1]; exact ((Mod.refl no w).alloc _).alloc _
  have hk1 : w1.rangeAt w.heap.size 0 k.L := by rw [hw1]; exact blk_range ((Blk.new w 39 k.L.toArray).alloc _)
  have he1 : w1.rangeAt (w.heap.size + 1) 0 v.L := by rw [hw1]; exact blk_range (Blk.new_at (n := w.heap.size + 1) (w.alloc (.cells k.L.toArray 39)) 56 v.L.toArray (by simp))
  have hs1 : w.heap.size + 1 < w1.heap.size := by rw [hw1]; simp
  have ha1 := ha.mod hm1 (fun c => c) (fun c => c)
  have HF := Lib.hid ((find_any ha1 hp hh k).mono (fun e w' hh' => show e = .returned (.tuple #[.int .i64 (-1), .int .i64 (g : Int), .int .i64 (d : Int)]) ∧ Mod no w1 w' by rw [hf] at hh'; exact hh'))
  have HA := Lib.hid (And.intro ha1 (And.intro hm1 (And.intro hk1 (And.intro he1 hs1))))
  have HS := Lib.hid (And.intro hg (And.intro hgl (And.intro hu (And.intro ht (show ga < w.heap.size ∧ gs < w.heap.size from ⟨ha.a.lt, ha.s.lt⟩)))))
  have HNE := Lib.hid ha.ne
  have HP := Lib.hid hp
  have HW1 := Lib.hid hw1
  clear ha hp hh hf hg hu ht hgl hm1 hk1 he1 hs1 ha1
  go_enter Try.func89, Try.ntmps89
  go_upto_region 1 with fail
  rw [← HW1.out]
  clear hw1
  go_upto_region 2 with (first
    | (refine wpList_load_mid rfl 39 (.tmp 6) (by rfl) w.heap.size 0 (by rfl) k.L _ (by exact HA.out.2.2.1) Try.underlying39 rfl (key_sizeG k.len) ?_)
    | (go_at_call 102; refine HF.out.mono ?_; rintro e w2 ⟨rfl, hm2⟩; have HM2 := Lib.hid hm2; clear hm2))
  have ha2 := HA.out.1.mod HM2.out (fun c => c) (fun c => c)
  have c0 := ha2.a.cell 0
  have c3 := ha2.st HS.out.1
  have g1 : (g : Int) < (l.length : Int) := by have := HS.out.2.1; omega
  have g2 : ¬ (g : Int) < 0 := by omega
  have H2 := Lib.hid (And.intro ha2 (And.intro (range_mod HA.out.2.2.1 HM2.out (fun c => c)) (And.intro (range_mod HA.out.2.2.2.1 HM2.out (fun c => c)) (HA.out.2.1.and_then HM2.out))))
  clear ha2
  rcases hx with rfl | rfl
  · have c3' : w2.cell? ⟨gs, g * 37, none⟩ = some (.int .u8 0) := c3
    have HTT := Lib.hid (show ∀ w3, w3 = w2 → Blk w3 ga 136 #[.slice (some ⟨gs, 0, none⟩) l.length l.length, .int .i64 (u : Int), .int .i64 (t : Int)] ∧ (w3.there gs (g * 37) 37 ∧ Blk (World.setCells w3.drew gs (g * 37) (slotL (.full k v))) gs 133 (rowL (l.set g (.full k v))).flatten.toArray) ∧ w3.rangeAt w.heap.size 0 k.L ∧ w3.rangeAt (w.heap.size + 1) 0 v.L ∧ Mod (two ga gs) w w3 from fun w3 hw3 => by
      subst hw3
      exact ⟨H2.out.1.a, ⟨H2.out.1.there HS.out.2.1, (show ArrAt w3.drew ga gs l u _ from ⟨H2.out.1.a, H2.out.1.s⟩).put HS.out.2.1 _⟩, H2.out.2.1, H2.out.2.2.1, H2.out.2.2.2.mono (fun _ _ c => c.elim)⟩)
    clear c3
    go_upto_region 5 with fail
    obtain ⟨w3, hw3⟩ : ∃ w3, w3 = w2 := ⟨_, rfl⟩
    rw [← hw3]
    have HT := Lib.hid (HTT.out w3 hw3)
    clear hw3 c0
    have hr0 := HT.out.1.cell 0
    refine wp_region_held_drew (S := fun w' => Blk w' ga 136 #[.slice (some ⟨gs, 0, none⟩) l.length l.length, .int .i64 (u : Int), .int .i64 (t : Int)] ∧ w'.rangeAt w.heap.size 0 k.L ∧ w'.rangeAt (w.heap.size + 1) 0 v.L) (by kernel_rfl) ⟨HT.out.1, HT.out.2.2.1, HT.out.2.2.2.1⟩ (fun hHeld => ?_)
    refine takeD (i := 0) (d := some 37) (v := (.pointer (some ⟨ga, 0, none⟩))) rfl (by kernel_rfl) (by kernel_rfl) (by kernel_rfl) rfl (fun _ _ _ h => h) (Or.inl ⟨by kernel_rfl, fun w9 hw => y_move rfl rfl⟩) hHeld ?_
    simp only [Act.put, List.setIfInBounds_toArray, List.set_cons_zero, List.set_cons_succ]
    refine takeD (i := 1) (d := some 38) (v := (.pointer (some ⟨ga, 0, none⟩))) rfl (by kernel_rfl) (by kernel_rfl) (by kernel_rfl) rfl (fun _ _ _ h => h) (Or.inl ⟨by kernel_rfl, fun w9 hw => y_nil rfl rfl⟩) hHeld ?_
    simp only [Act.put, List.setIfInBounds_toArray, List.set_cons_zero, List.set_cons_succ]
    refine takeD (i := 2) (d := some 39) (v := (.pointer (some ⟨ga, 0, none⟩))) rfl (by kernel_rfl) (by kernel_rfl) (by kernel_rfl) rfl (fun _ _ _ h => h) (Or.inl ⟨by kernel_rfl, fun w9 hw => y_fa (by decide) rfl rfl⟩) hHeld ?_
    simp only [Act.put, List.setIfInBounds_toArray, List.set_cons_zero, List.set_cons_succ]
    refine takeD (i := 3) (d := some 40) (v := (.slice (some ⟨gs, 0, none⟩) l.length l.length)) rfl (by kernel_rfl) (by kernel_rfl) (by kernel_rfl) rfl (fun _ _ _ h => h) (Or.inl ⟨by kernel_rfl, fun w9 hw => y_one rfl (by decide) rfl (hw.1.cell 0) rfl⟩) hHeld ?_
    simp only [Act.put, List.setIfInBounds_toArray, List.set_cons_zero, List.set_cons_succ]
    refine takeD (i := 4) (d := some 41) (v := (.int .i64 (g : Int))) rfl (by kernel_rfl) (by kernel_rfl) (by kernel_rfl) rfl (fun _ _ _ h => h) (Or.inl ⟨by kernel_rfl, fun w9 hw => y_move rfl rfl⟩) hHeld ?_
    simp only [Act.put, List.setIfInBounds_toArray, List.set_cons_zero, List.set_cons_succ]
    refine takeD (i := 5) (d := some 42) (v := (.agg k.L.toArray)) rfl (by kernel_rfl) (by kernel_rfl) (by kernel_rfl) rfl (fun _ _ _ h => h) (Or.inl ⟨by kernel_rfl, fun w9 hw => y_key rfl rfl hw.2.1⟩) hHeld ?_
    simp only [Act.put, List.setIfInBounds_toArray, List.set_cons_zero, List.set_cons_succ]
    refine takeD (i := 6) (d := some 43) (v := (.agg v.L.toArray)) rfl (by kernel_rfl) (by kernel_rfl) (by kernel_rfl) rfl (fun _ _ _ h => h) (Or.inl ⟨by kernel_rfl, fun w9 hw => y_ent rfl rfl hw.2.2⟩) hHeld ?_
    simp only [Act.put, List.setIfInBounds_toArray, List.set_cons_zero, List.set_cons_succ]
    refine takeD (i := 7) (d := some 44) (v := (.agg (slotL (.full k v)).toArray)) rfl (by kernel_rfl) (by kernel_rfl) (by kernel_rfl) rfl (fun _ _ _ h => h) (Or.inl ⟨by kernel_rfl, fun w9 hw => y_full rfl rfl rfl rfl⟩) hHeld ?_
    simp only [Act.put, List.setIfInBounds_toArray, List.set_cons_zero, List.set_cons_succ]
    refine takeD (i := 8) (d := some 45) (v := (.pointer (some ⟨gs, g * 37, none⟩))) rfl (by kernel_rfl) (by kernel_rfl) (by kernel_rfl) rfl (fun _ _ _ h => h) (Or.inl ⟨by kernel_rfl, fun w9 hw => y_ix rfl rfl rfl HS.out.2.1⟩) hHeld ?_
    simp only [Act.put, List.setIfInBounds_toArray, List.set_cons_zero, List.set_cons_succ]
    refine readyD (i := 9) (d := none) rfl (by kernel_rfl) rfl (by kernel_rfl) fun K hK => ?_
    refine wp_store_mid 133 (.tmp 45) (.tmp 44) rfl gs (g * 37) (slotL (.full k v)).toArray rfl rfl (by rw [List.size_toArray, slotL_len]; exact HT.out.2.1.1) (slot_sizeG _) (all_oneCell_toArray (slot_ones _)) ?_
    have mS : Mod (one gs) w3.drew (World.setCells w3.drew gs (g * 37) (slotL (.full k v))) := mod_setCells (S := one gs) (fun _ => rfl) _ _ _ (Mod.refl _ _)
    have hS4 := HT.out.2.1.2
    have e1 : ¬ one gs w.heap.size := fun c => by have c : w.heap.size = gs := c; have := HS.out.2.2.2.2.2; omega
    have e2 : ¬ one gs (w.heap.size + 1) := fun c => by have c : w.heap.size + 1 = gs := c; have := HS.out.2.2.2.2.2; omega
    refine hK _ _ ⟨hHeld.1.mod mS (fun c => HNE.out c), range_mod hHeld.2.1 mS e1, range_mod hHeld.2.2 mS e2⟩ fun _ => ?_
    have hb4 := hHeld.1.mod mS (fun c => HNE.out c)
    have hm4 := HT.out.2.2.2.2.drew.and_then (mS.mono (S' := two ga gs) (fun _ _ c => .inr c))
    have H4 := Lib.hid (And.intro hb4 (And.intro hS4 hm4))
    clear hK K hHeld mS hS4 hb4 hm4 e1 e2 hr0
    refine wpAnyH_done (by kernel_rfl) ?_ _
    obtain ⟨w4, hw4⟩ : ∃ w4, w4 = World.setCells w3.drew gs (g * 37) (slotL (.full k v)) := ⟨_, rfl⟩
    have H5 := Lib.hid (show Blk w4 ga 136 #[.slice (some ⟨gs, 0, none⟩) l.length l.length, .int .i64 (u : Int), .int .i64 (t : Int)] ∧ Blk w4 gs 133 (rowL (l.set g (.full k v))).flatten.toArray ∧ Mod (two ga gs) w w4 by rw [hw4]; exact H4.out)
    simp only [Act.put, List.toList_toArray]
    rw [← hw4]
    clear hw4 H4
    have c1 := H5.out.1.cell 1
    have f1 := H5.out.1.free 1
    have hwu : wrap64 ((u : Int) + 1) = ((u + 1 : Nat) : Int) := by rw [IntWalk.wrap64_in _ (by have := HS.out.2.2.1; omega)]; omega
    go_wp2_with fail
    go_end0
    refine ⟨rfl, ⟨?_, ?_⟩, ?_⟩
    · rw [List.length_set]
      exact H5.out.1.put 1 _
    · exact H5.out.2.1.far (p := ⟨ga, 1, none⟩) (fun c => HNE.out c.symm) _
    · exact H5.out.2.2.set (p := ⟨ga, 1, none⟩) (fun _ => .inl rfl) _
  · have c3' : w2.cell? ⟨gs, g * 37, none⟩ = some (.int .u8 2) := c3
    obtain ⟨y, hy⟩ : ∃ y : Int, y = ((t + 1 : Nat) : Int) := ⟨_, rfl⟩
    have ca2 : Blk w2 ga 136 #[.slice (some ⟨gs, 0, none⟩) l.length l.length, .int .i64 (u : Int), .int .i64 y] := by rw [hy]; exact H2.out.1.a
    have c2 := ca2.cell 2
    have f2 := ca2.free 2
    have hw2 : wrap64 (y - 1) = (t : Int) := by rw [hy, IntWalk.wrap64_in _ (by have := HS.out.2.2.2.1; omega)]; omega
    have HTT := Lib.hid (show ∀ w3, w3 = w2.setCell ⟨ga, 2, none⟩ (.int .i64 (t : Int)) → Blk w3 ga 136 #[.slice (some ⟨gs, 0, none⟩) l.length l.length, .int .i64 (u : Int), .int .i64 (t : Int)] ∧ (w3.there gs (g * 37) 37 ∧ Blk (World.setCells w3.drew gs (g * 37) (slotL (.full k v))) gs 133 (rowL (l.set g (.full k v))).flatten.toArray) ∧ w3.rangeAt w.heap.size 0 k.L ∧ w3.rangeAt (w.heap.size + 1) 0 v.L ∧ Mod (two ga gs) w w3 from fun w3 hw3 => by
      have m3 : Mod (one ga) w2 w3 := by rw [hw3]; exact (Mod.refl (one ga) w2).set (p := ⟨ga, 2, none⟩) (fun _ => (rfl : one ga ga)) _
      have hs3 : Blk w3 gs 133 (rowL l).flatten.toArray := H2.out.1.s.mod m3 (fun c => HNE.out c.symm)
      have ha3 : Blk w3 ga 136 #[.slice (some ⟨gs, 0, none⟩) l.length l.length, .int .i64 (u : Int), .int .i64 (t : Int)] := by rw [hw3]; exact ca2.put 2 _
      have hA3 : ArrAt w3.drew ga gs l u t := ⟨ha3, hs3⟩
      have e1 : ¬ one ga w.heap.size := fun c => by have c : w.heap.size = ga := c; have := HS.out.2.2.2.2.1; omega
      have e2 : ¬ one ga (w.heap.size + 1) := fun c => by have c : w.heap.size + 1 = ga := c; have := HS.out.2.2.2.2.1; omega
      exact ⟨ha3, ⟨hA3.there HS.out.2.1, hA3.put HS.out.2.1 _⟩, range_mod H2.out.2.1 m3 e1, range_mod H2.out.2.2.1 m3 e2, (H2.out.2.2.2.mono (S' := two ga gs) (fun _ _ c => c.elim)).and_then (m3.mono (S' := two ga gs) (fun _ _ c => .inl c))⟩)
    clear c3 ca2 hy
    go_upto_region 5 with fail
    obtain ⟨w3, hw3⟩ : ∃ w3, w3 = w2.setCell ⟨ga, 2, none⟩ (.int .i64 (t : Int)) := ⟨_, rfl⟩
    rw [← hw3]
    have HT := Lib.hid (HTT.out w3 hw3)
    clear hw3 c0
    have hr0 := HT.out.1.cell 0
    refine wp_region_held_drew (S := fun w' => Blk w' ga 136 #[.slice (some ⟨gs, 0, none⟩) l.length l.length, .int .i64 (u : Int), .int .i64 (t : Int)] ∧ w'.rangeAt w.heap.size 0 k.L ∧ w'.rangeAt (w.heap.size + 1) 0 v.L) (by kernel_rfl) ⟨HT.out.1, HT.out.2.2.1, HT.out.2.2.2.1⟩ (fun hHeld => ?_)
    refine takeD (i := 0) (d := some 37) (v := (.pointer (some ⟨ga, 0, none⟩))) rfl (by kernel_rfl) (by kernel_rfl) (by kernel_rfl) rfl (fun _ _ _ h => h) (Or.inl ⟨by kernel_rfl, fun w9 hw => y_move rfl rfl⟩) hHeld ?_
    simp only [Act.put, List.setIfInBounds_toArray, List.set_cons_zero, List.set_cons_succ]
    refine takeD (i := 1) (d := some 38) (v := (.pointer (some ⟨ga, 0, none⟩))) rfl (by kernel_rfl) (by kernel_rfl) (by kernel_rfl) rfl (fun _ _ _ h => h) (Or.inl ⟨by kernel_rfl, fun w9 hw => y_nil rfl rfl⟩) hHeld ?_
    simp only [Act.put, List.setIfInBounds_toArray, List.set_cons_zero, List.set_cons_succ]
    refine takeD (i := 2) (d := some 39) (v := (.pointer (some ⟨ga, 0, none⟩))) rfl (by kernel_rfl) (by kernel_rfl) (by kernel_rfl) rfl (fun _ _ _ h => h) (Or.inl ⟨by kernel_rfl, fun w9 hw => y_fa (by decide) rfl rfl⟩) hHeld ?_
    simp only [Act.put, List.setIfInBounds_toArray, List.set_cons_zero, List.set_cons_succ]
    refine takeD (i := 3) (d := some 40) (v := (.slice (some ⟨gs, 0, none⟩) l.length l.length)) rfl (by kernel_rfl) (by kernel_rfl) (by kernel_rfl) rfl (fun _ _ _ h => h) (Or.inl ⟨by kernel_rfl, fun w9 hw => y_one rfl (by decide) rfl (hw.1.cell 0) rfl⟩) hHeld ?_
    simp only [Act.put, List.setIfInBounds_toArray, List.set_cons_zero, List.set_cons_succ]
    refine takeD (i := 4) (d := some 41) (v := (.int .i64 (g : Int))) rfl (by kernel_rfl) (by kernel_rfl) (by kernel_rfl) rfl (fun _ _ _ h => h) (Or.inl ⟨by kernel_rfl, fun w9 hw => y_move rfl rfl⟩) hHeld ?_
    simp only [Act.put, List.setIfInBounds_toArray, List.set_cons_zero, List.set_cons_succ]
    refine takeD (i := 5) (d := some 42) (v := (.agg k.L.toArray)) rfl (by kernel_rfl) (by kernel_rfl) (by kernel_rfl) rfl (fun _ _ _ h => h) (Or.inl ⟨by kernel_rfl, fun w9 hw => y_key rfl rfl hw.2.1⟩) hHeld ?_
    simp only [Act.put, List.setIfInBounds_toArray, List.set_cons_zero, List.set_cons_succ]
    refine takeD (i := 6) (d := some 43) (v := (.agg v.L.toArray)) rfl (by kernel_rfl) (by kernel_rfl) (by kernel_rfl) rfl (fun _ _ _ h => h) (Or.inl ⟨by kernel_rfl, fun w9 hw => y_ent rfl rfl hw.2.2⟩) hHeld ?_
    simp only [Act.put, List.setIfInBounds_toArray, List.set_cons_zero, List.set_cons_succ]
    refine takeD (i := 7) (d := some 44) (v := (.agg (slotL (.full k v)).toArray)) rfl (by kernel_rfl) (by kernel_rfl) (by kernel_rfl) rfl (fun _ _ _ h => h) (Or.inl ⟨by kernel_rfl, fun w9 hw => y_full rfl rfl rfl rfl⟩) hHeld ?_
    simp only [Act.put, List.setIfInBounds_toArray, List.set_cons_zero, List.set_cons_succ]
    refine takeD (i := 8) (d := some 45) (v := (.pointer (some ⟨gs, g * 37, none⟩))) rfl (by kernel_rfl) (by kernel_rfl) (by kernel_rfl) rfl (fun _ _ _ h => h) (Or.inl ⟨by kernel_rfl, fun w9 hw => y_ix rfl rfl rfl HS.out.2.1⟩) hHeld ?_
    simp only [Act.put, List.setIfInBounds_toArray, List.set_cons_zero, List.set_cons_succ]
    refine readyD (i := 9) (d := none) rfl (by kernel_rfl) rfl (by kernel_rfl) fun K hK => ?_
    refine wp_store_mid 133 (.tmp 45) (.tmp 44) rfl gs (g * 37) (slotL (.full k v)).toArray rfl rfl (by rw [List.size_toArray, slotL_len]; exact HT.out.2.1.1) (slot_sizeG _) (all_oneCell_toArray (slot_ones _)) ?_
    have mS : Mod (one gs) w3.drew (World.setCells w3.drew gs (g * 37) (slotL (.full k v))) := mod_setCells (S := one gs) (fun _ => rfl) _ _ _ (Mod.refl _ _)
    have hS4 := HT.out.2.1.2
    have e1 : ¬ one gs w.heap.size := fun c => by have c : w.heap.size = gs := c; have := HS.out.2.2.2.2.2; omega
    have e2 : ¬ one gs (w.heap.size + 1) := fun c => by have c : w.heap.size + 1 = gs := c; have := HS.out.2.2.2.2.2; omega
    refine hK _ _ ⟨hHeld.1.mod mS (fun c => HNE.out c), range_mod hHeld.2.1 mS e1, range_mod hHeld.2.2 mS e2⟩ fun _ => ?_
    have hb4 := hHeld.1.mod mS (fun c => HNE.out c)
    have hm4 := HT.out.2.2.2.2.drew.and_then (mS.mono (S' := two ga gs) (fun _ _ c => .inr c))
    have H4 := Lib.hid (And.intro hb4 (And.intro hS4 hm4))
    clear hK K hHeld mS hS4 hb4 hm4 e1 e2 hr0
    refine wpAnyH_done (by kernel_rfl) ?_ _
    obtain ⟨w4, hw4⟩ : ∃ w4, w4 = World.setCells w3.drew gs (g * 37) (slotL (.full k v)) := ⟨_, rfl⟩
    have H5 := Lib.hid (show Blk w4 ga 136 #[.slice (some ⟨gs, 0, none⟩) l.length l.length, .int .i64 (u : Int), .int .i64 (t : Int)] ∧ Blk w4 gs 133 (rowL (l.set g (.full k v))).flatten.toArray ∧ Mod (two ga gs) w w4 by rw [hw4]; exact H4.out)
    simp only [Act.put, List.toList_toArray]
    rw [← hw4]
    clear hw4 H4
    have c1 := H5.out.1.cell 1
    have f1 := H5.out.1.free 1
    have hwu : wrap64 ((u : Int) + 1) = ((u + 1 : Nat) : Int) := by rw [IntWalk.wrap64_in _ (by have := HS.out.2.2.1; omega)]; omega
    go_wp2_with fail
    go_end0
    refine ⟨rfl, ⟨?_, ?_⟩, ?_⟩
    · rw [List.length_set]
      exact H5.out.1.put 1 _
    · exact H5.out.2.1.far (p := ⟨ga, 1, none⟩) (fun c => HNE.out c.symm) _
    · exact H5.out.2.2.set (p := ⟨ga, 1, none⟩) (fun _ => .inl rfl) _
end Go.Proofs.Ytknbehjhaaidoaa.TB

/- The index's hash; a new array; a new table. -/
namespace Go.Proofs.Ytknbehjhaaidoaa.TB
open Go.RowKit Mem HD
set_option linter.unusedVariables false
set_option linter.unusedSimpArgs false

/-- The hash of a key, behind i bytes. -/
def hsN (k : Key) : Nat → Nat
  | 0 => 0
  | i + 1 => (hsN k i * 256) % 18446744073709551616 ||| ((k.1[i + 1]?).getD 0).toNat
theorem hsN_lt (k : Key) : ∀ i, hsN k i < 18446744073709551616
  | 0 => (by decide : (0 : Nat) < 18446744073709551616)
  | i + 1 => by
    unfold hsN
    refine Nat.or_lt_two_pow (n := 64) (Nat.mod_lt _ (by decide)) ?_
    have := ((k.1[i + 1]?).getD 0).toNat_lt
    omega
theorem hsN_step (k : Key) (i : Nat) {b : UInt8} (hb : k.1[i + 1]? = some b) : bits .or .u64 (IntKind.u64.wrap ((hsN k i : Int) * 256)) (IntKind.u64.wrap (b.toNat : Int)) = (hsN k (i + 1) : Int) := by
  have h1 := b.toNat_lt
  have e1 : IntKind.u64.wrap ((hsN k i : Int) * 256) = (((hsN k i * 256) % 18446744073709551616 : Nat) : Int) := by
    rw [IntKind.wrap_u64]
    omega
  have e2 : IntKind.u64.wrap (b.toNat : Int) = (b.toNat : Int) := IntWalk.u64_in _ (by omega)
  rw [e1, e2, bits_or_u64_nat _ _ (Nat.mod_lt _ (by decide)) (by omega)]
  conv => rhs; unfold hsN
  rw [hb]
  rfl
/-- The hash. -/
def hash (k : Key) : Nat := hsN k 8
theorem hash_lt (k : Key) : hash k < 18446744073709551616 := hsN_lt k 8
def HI (w : World) (k : Key) (v3 v8 : Value) (wr : World) : Prop := ∃ i : Nat, i ≤ 8 ∧ v3 = .int .u64 (hsN k i : Int) ∧ v8 = .int .i64 (i : Int) ∧ wr = w
set_option maxRecDepth 100000 in
set_option maxHeartbeats 4000000 in
theorem hash_any (k : Key) (w : World) : Calls Try.prog 51 #[.agg k.L.toArray] w fun e w' => e = .returned (.int .u64 (hash k : Int)) ∧ Mod no w w' := by
  have hb := Blk.new w 39 k.L.toArray
  have hm : Mod no w (w.alloc (.cells k.L.toArray 39)) := (Mod.refl no w).alloc _
  have HB := Lib.hid (And.intro hb hm)
  clear hb hm
  go_enter Try.func51, Try.ntmps51
  go_upto_region 2 with fail
  obtain ⟨w1, hw1⟩ : ∃ w1, w1 = w.alloc (.cells k.L.toArray 39) := ⟨_, rfl⟩
  rw [← hw1]
  rw [← hw1] at HB
  clear hw1
  obtain ⟨g, hg⟩ : ∃ g, g = w.heap.size := ⟨_, rfl⟩
  rw [← hg]
  rw [← hg] at HB
  clear hg
  go_wp2_with fail
  go_loopw [3, 8] (HI w1 k) (fun _ v _ => 8 - (intOf v).toNat)
  case atStart => exact ⟨0, by omega, rfl, rfl, rfl⟩
  case round =>
    obtain ⟨i, hi, rfl, rfl, rfl⟩ := hrel
    by_cases hlt : i < 8
    · have g1 : (i : Int) < 8 := by omega
      have g2 : ¬ (i : Int) < 0 := by omega
      obtain ⟨b, hb⟩ : ∃ b : UInt8, k.1[i + 1]? = some b := ⟨_, List.getElem?_eq_getElem (by rw [k.2]; omega)⟩
      have c0 : wr.cell? ⟨g, 1 + i, none⟩ = some (.int .u8 (b.toNat : Int)) := by
        rw [HB.out.1.cell, List.getElem?_toArray]
        unfold Key.L kOf
        rw [List.getElem?_map, Nat.add_comm, hb]
        rfl
      have HX := Lib.hid (And.intro hb (hsN_step k i hb))
      have HL := Lib.hid hlt
      obtain ⟨x, hx⟩ : ∃ x : Int, x = (hsN k i : Int) := ⟨_, rfl⟩
      rw [← hx] at HX ⊢
      clear hb hx hlt hi
      go_wp2_with fail
      exact ⟨⟨i + 1, HL.out, by rw [HX.out.2], by go_num, rfl⟩, by have := HL.out; show 8 - ((i : Int) + 1).toNat < 8 - ((i : Int)).toNat; omega⟩
    · obtain rfl : i = 8 := by omega
      have g1 : ¬ ((8 : Nat) : Int) < 8 := by omega
      clear hi hlt
      obtain ⟨x, hx⟩ : ∃ x : Int, x = (hsN k 8 : Int) := ⟨_, rfl⟩
      have HX := Lib.hid hx
      rw [← hx]
      clear hx
      go_wp2_with fail
      go_ret
      exact ⟨by rw [HX.out]; rfl, HB.out.2⟩

/-! ### A new array -/
theorem info_parts {t : TypeId} {z : Value} {sz by_ : Nat} (h : (Try.prog.info? t).map (fun i => (i.zero, i.size, i.bytes)) = some (some z, sz, by_)) : ∃ i0, Try.prog.info? t = some i0 ∧ i0.zero = some z ∧ i0.size = sz ∧ i0.bytes = by_ := by
  cases hi : Try.prog.info? t with
  | none => rw [hi] at h; cases h
  | some i0 =>
    rw [hi] at h
    injection h with h
    injection h with h1 h2
    injection h2 with h2 h3
    exact ⟨i0, rfl, h1, h2, h3⟩
theorem made_flat (z : List Value) (hz : 0 < z.length) (n : Nat) : madeCells z.toArray (n * z.length) = (List.replicate n z).flatten.toArray := by
  apply Array.ext_getElem?
  intro j
  have hl : ∀ y ∈ List.replicate n z, y.length = z.length := fun y hy => by rw [List.eq_of_mem_replicate hy]
  by_cases hj : j < n * z.length
  · have h1 : j / z.length < n := (Nat.div_lt_iff_lt_mul hz).2 hj
    have h2 : j % z.length < z.length := Nat.mod_lt _ hz
    have h3 : z[j % z.length]? = some z[j % z.length] := List.getElem?_eq_getElem h2
    have h4 := flat_get (List.replicate n z) (j / z.length) z hl (by rw [List.getElem?_replicate, if_pos h1]) (j % z.length) _ h3
    rw [show j / z.length * z.length + j % z.length = j by rw [Nat.mul_comm]; exact Nat.div_add_mod j z.length] at h4
    have e : (List.replicate n z).flatten.toArray[j]? = some z[j % z.length] := by
      simpa using h4
    rw [e]
    unfold madeCells
    rw [Array.getElem?_map, Array.getElem?_range, if_pos hj]
    simp [h2]
  · have h5 := flat_len (List.replicate n z) hl
    rw [List.length_replicate] at h5
    rw [Array.getElem?_eq_none (by rw [size_madeCells]; omega), Array.getElem?_eq_none (by simp only [List.size_toArray]; omega)]
theorem slot_zero : (Try.prog.info? 133).map (fun i => (i.zero, i.size, i.bytes)) = some (some (.agg (slotL .empty).toArray), 37, 72) := by kernel_rfl
theorem made_slots (n : Nat) : madeCells (Value.agg (slotL .empty).toArray).cells (n * 37) = (rowL (List.replicate n .empty)).flatten.toArray := by
  have h := made_flat (slotL .empty) (by rw [slotL_len]; decide) n
  rw [slotL_len] at h
  unfold rowL
  rw [List.map_replicate, ← h]
  rfl
theorem own_blk {w : World} {base g n : Nat} {e : TypeId} {xs : List Value} (hx : xs.length = n * 37) (h : w.ownsRow base e 37 (.slice (some ⟨g, 0, none⟩) n n) n xs) : Blk w g e xs.toArray := by
  rcases h.2 with ⟨hv, _⟩ | ⟨g', cap, cur, hv, _, hb, _, _, hcs, h4⟩
  · cases hv
  · injection hv with hv h5 h6
    injection hv with hv
    injection hv with hv
    subst hv h6
    have hb : Blk w g e cur := hb
    have : cur = xs.toArray := by
      apply Array.ext'
      rw [← h4, List.take_of_length_le (by simp; omega)]
    rw [← this]; exact hb
set_option maxRecDepth 100000 in
set_option maxHeartbeats 4000000 in
theorem newArray_any (n : Nat) (hn : n ≤ 1099511627776) (w : World) : Calls Try.prog 83 #[.int .i64 (n : Int)] w fun e w' => ∃ ga gs, e = .returned (.pointer (some ⟨ga, 0, none⟩)) ∧ ArrAt w' ga gs (List.replicate n .empty) 0 0 ∧ w.heap.size ≤ ga ∧ w.heap.size ≤ gs ∧ Mod no w w' := by
  obtain ⟨i0, hi, hz0, hz1, hz2⟩ := info_parts slot_zero
  have HI0 := Lib.hid (And.intro hi (And.intro hz0 (And.intro hz1 (And.intro hz2 hn))))
  clear hi hz0 hz1 hz2 hn
  go_enter Try.func83, Try.ntmps83
  go_wp2_with (first
    | (at_make
       refine wpList_make_full _ rfl (.tmp 3) (.tmp 3) 134 rfl 0 133 i0 (.agg (slotL .empty).toArray) 37 Try.underlying134 HI0.out.1 HI0.out.2.1 HI0.out.2.2.1 .i64 .i64 (n : Int) (n : Int) n rfl rfl rfl rfl ?_ (by have := HI0.out.2.2.2.2; show n ≤ 9223372036854775807; omega) (Nat.zero_le _) ?_
       · rw [HI0.out.2.2.2.1]; have := HI0.out.2.2.2.2; omega
       intro w1 hown hg1
       have hb1 := own_blk (by rw [Array.length_toList, size_madeCells]) hown
       rw [made_slots] at hb1
       have H1 := Lib.hid (And.intro hb1 (Mod.of_grown (S := no) hg1 (fun _ _ e => by cases e)))
       clear hown hg1 hb1))
  have hs := H1.out.2.size
  have ha : ArrAt (w1.alloc (.cells #[.slice (some ⟨w.heap.size, 0, none⟩) n n, .int .i64 0, .int .i64 0] 136)) w1.heap.size w.heap.size (List.replicate n .empty) 0 0 := ⟨by rw [List.length_replicate]; exact Blk.new w1 _ _, H1.out.1.alloc _⟩
  have hm := H1.out.2.alloc (.cells #[.slice (some ⟨w.heap.size, 0, none⟩) n n, .int .i64 0, .int .i64 0] 136)
  go_ret
  exact ⟨w1.heap.size, rfl, w.heap.size, ha, hs, Nat.le_refl _, hm⟩
end Go.Proofs.Ytknbehjhaaidoaa.TB

