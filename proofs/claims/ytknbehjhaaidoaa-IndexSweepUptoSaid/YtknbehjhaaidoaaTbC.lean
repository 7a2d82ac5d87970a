/- A table's bury and lay. -/
import Derived.Test.YtknbehjhaaidoaaTbB
import Derived.Test.YtknbehjhaaidoaaTbY2
namespace Go.Proofs.Ytknbehjhaaidoaa.TB
open Go.RowKit Mem HD
set_option linter.unusedVariables false
set_option linter.unusedSimpArgs false

def two (a b : Nat) (k : Nat) : Prop := k = a ∨ k = b
theorem blk_there {w : World} {g : Nat} {t : TypeId} {cs : Array Value} (h : Blk w g t cs) (o n : Nat) (hn : o + n ≤ cs.size) : w.there g o n := fun j hj => by
  refine ⟨?_, h.free _⟩
  rw [h.cell, Array.getElem?_eq_getElem (by omega)]
  rfl
theorem blk_range {w : World} {g : Nat} {t : TypeId} {cs : List Value} (h : Blk w g t cs.toArray) : w.rangeAt g 0 cs := fun j v hv => by
  rw [h.cell, Nat.zero_add, List.getElem?_toArray]
  exact hv
theorem cell_below {w : World} {a : Addr} {v : Value} (h : w.cell? a = some v) : a.block < w.heap.size := by
  unfold World.cell? at h
  split at h
  · split at h
    · simp at h
    · rename_i hs
      rcases Nat.lt_or_ge a.block w.heap.size with c | c
      · exact c
      · simp_all
  · simp at h
theorem ret_one {P : Program} {fn : Func} {p : Tmp} {ty : TypeId} (h : fn.results = #[.cell p ty]) (tmps : Array Value) (w : World) (b : Nat) (C : List Value) (d : TypeDesc) (hp : tmps.getD p undef = .pointer (some ⟨b, 0, none⟩)) (hc : w.rangeAt b 0 C)
    (hu : P.underlying ty = some d) (hd : d.isRow = true) (hi : (P.info? ty).map (·.size) = some C.length) : (results fn tmps).run P w = .ok (.agg C.toArray) w := by
  have hp' : tmps[p]?.getD undef = .pointer (some ⟨b, 0, none⟩) := by simpa using hp
  simp [results, h, hp', asAddr, run_loadVar_mid (P := P) w b 0 ty C d hc hu hd hi]
set_option maxRecDepth 100000 in
set_option maxHeartbeats 4000000 in
theorem bury_any {w : World} {ga gs u t n : Nat} {l : List Sl} {s : Sl} (ha : ArrAt w ga gs l (u + 1) t) (hs : l[n]? = some s) (hu : u + 1 ≤ 1099511627776) (ht : t ≤ 1099511627776) :
    Calls Try.prog 88 #[.pointer (some ⟨ga, 0, none⟩), .int .i64 (n : Int)] w fun e w' => e = .returned (.agg (entO s).L.toArray) ∧ ArrAt w' ga gs (l.set n .tomb) u (t + 1) ∧ Mod (two ga gs) w w' := by
  have hnl : n < l.length := (List.getElem?_eq_some_iff.1 hs).1
  have hm1 : Mod no w ((w.alloc (.cells #[.int .i64 0, .int .i64 0, .int .i64 0, .int .u32 0] 56)).alloc (.cells #[.int .i64 0, .int .i64 0, .int .i64 0, .int .u32 0] 56)) := ((Mod.refl no w).alloc _).alloc _
  have hb4 := (Blk.new w 56 #[.int .i64 0, .int .i64 0, .int .i64 0, .int .u32 0]).alloc (.cells #[.int .i64 0, .int .i64 0, .int .i64 0, .int .u32 0] 56)
  have hb5 := Blk.new_at (n := w.heap.size + 1) (w.alloc (.cells #[.int .i64 0, .int .i64 0, .int .i64 0, .int .u32 0] 56)) 56 #[.int .i64 0, .int .i64 0, .int .i64 0, .int .u32 0] (by simp)
  have ha1 := ha.mod hm1 (fun c => c) (fun c => c)
  have ha0 := ha.mod ((Mod.refl no w).alloc (.cells #[.int .i64 0, .int .i64 0, .int .i64 0, .int .u32 0] 56)) (fun c => c) (fun c => c)
  have c0 := ha0.a.cell 0
  have g1 : (n : Int) < (l.length : Int) := by omega
  have g2 : ¬ (n : Int) < 0 := by omega
  have HR := Lib.hid ((ha0.ent hs))
  have HA := Lib.hid (And.intro ha1 (And.intro hb4 (And.intro hb5 hm1)))
  have HS := Lib.hid (And.intro hs (And.intro hnl (And.intro hu (And.intro ht (show ga < w.heap.size ∧ gs < w.heap.size from ⟨ha.a.lt, ha.s.lt⟩)))))
  have HNE := Lib.hid ha.ne
  have HA0 := Lib.hid ha
  clear ha0 ha1 hb4 hb5 hm1 ha hs hu ht hnl
  have HF2 := Lib.hid (show ∀ w2, w2 = World.setCells ((w.alloc (.cells #[.int .i64 0, .int .i64 0, .int .i64 0, .int .u32 0] 56)).alloc (.cells #[.int .i64 0, .int .i64 0, .int .i64 0, .int .u32 0] 56)) (w.heap.size + 1) 0 (entO s).L.toArray.toList → Mod no w w2 ∧ ArrAt w2 ga gs l (u + 1) t ∧ w2.rangeAt (w.heap.size + 1) 0 (entO s).L ∧ Blk w2 w.heap.size 56 #[.int .i64 0, .int .i64 0, .int .i64 0, .int .u32 0] from fun w2 hw2 => by
    have m2 : Mod no w w2 := by rw [hw2]; exact mod_setCells (fun c => by omega) _ _ _ HA.out.2.2.2
    have m2' : Mod (one (w.heap.size + 1)) ((w.alloc (.cells #[.int .i64 0, .int .i64 0, .int .i64 0, .int .u32 0] 56)).alloc (.cells #[.int .i64 0, .int .i64 0, .int .i64 0, .int .u32 0] 56)) w2 := by rw [hw2]; exact mod_setCells (S := one (w.heap.size + 1)) (fun _ => rfl) _ _ _ (Mod.refl _ _)
    have r5 : w2.rangeAt (w.heap.size + 1) 0 (entO s).L := by rw [hw2]; exact World.rangeAt_setCells_same _ _ _ _ (blk_there HA.out.2.2.1 0 4 (by decide))
    exact ⟨m2, HA0.out.mod m2 (fun c => c) (fun c => c), r5, HA.out.2.1.mod m2' (fun c => by have c : w.heap.size = w.heap.size + 1 := c; omega)⟩)
  have HF3 := Lib.hid (show ∀ w2 w3, (Mod no w w2 ∧ ArrAt w2 ga gs l (u + 1) t ∧ w2.rangeAt (w.heap.size + 1) 0 (entO s).L ∧ Blk w2 w.heap.size 56 #[.int .i64 0, .int .i64 0, .int .i64 0, .int .u32 0]) → w3 = World.setCells w2 gs (n * 37) (slotL .tomb).toArray.toList → Mod (one gs) w2 w3 ∧ Blk w3 gs 133 (rowL (l.set n .tomb)).flatten.toArray ∧ Blk w3 ga 136 #[.slice (some ⟨gs, 0, none⟩) l.length l.length, .int .i64 ((u + 1 : Nat) : Int), .int .i64 (t : Int)] ∧ w3.rangeAt (w.heap.size + 1) 0 (entO s).L ∧ Blk w3 w.heap.size 56 #[.int .i64 0, .int .i64 0, .int .i64 0, .int .u32 0] from fun w2 w3 HM2 hw3 => by
    have m3 : Mod (one gs) w2 w3 := by rw [hw3]; exact mod_setCells (S := one gs) (fun _ => rfl) _ _ _ (Mod.refl _ _)
    have hs3 : Blk w3 gs 133 (rowL (l.set n .tomb)).flatten.toArray := by rw [hw3]; exact HM2.2.1.put HS.out.2.1 .tomb
    have ha3 := HM2.2.1.a.mod m3 (fun c => HNE.out c)
    have r5 : w3.rangeAt (w.heap.size + 1) 0 (entO s).L := by rw [hw3]; exact range_setCells (by have := HS.out.2.2.2.2.2; omega) HM2.2.2.1 _
    have b4 := HM2.2.2.2.mod m3 (fun c => by have c : w.heap.size = gs := c; have := HS.out.2.2.2.2.2; omega)
    exact ⟨m3, hs3, ha3, r5, b4⟩)
  go_enter Try.func88, Try.ntmps88
  go_upto_region 5 with (first
    | (refine wpList_load_mid rfl 56 (.tmp 12) (by rfl) gs (n * 37 + 33) (by rfl) (entO s).L _ (by exact HR.out) Try.underlying56 rfl (ent_sizeG _) ?_)
    | (refine wpList_store_mid rfl 56 (.tmp 5) (.tmp 13) (by rfl) (w.heap.size + 1) 0 (entO s).L.toArray (by rfl) (by rfl) (by exact blk_there HA.out.2.2.1 0 4 (by decide)) (ent_sizeG _) (all_oneCell_toArray (ent_ones _)) ?_
       obtain ⟨w2, hw2⟩ : ∃ w2, w2 = World.setCells ((w.alloc (.cells #[.int .i64 0, .int .i64 0, .int .i64 0, .int .u32 0] 56)).alloc (.cells #[.int .i64 0, .int .i64 0, .int .i64 0, .int .u32 0] 56)) (w.heap.size + 1) 0 (entO s).L.toArray.toList := ⟨_, rfl⟩
       rw [← hw2]
       have HM2 := Lib.hid (HF2.out w2 hw2)
       clear hw2 c0
       have c1 := HM2.out.2.1.a.cell 0)
    | (refine wpList_op rfl (y_tomb (by rfl) (by rfl)) ?_)
    | (refine wpList_store_mid rfl 133 (.tmp 20) (.tmp 19) (by rfl) gs (n * 37) (slotL .tomb).toArray (by rfl) (by rfl) (by rw [List.size_toArray, slotL_len]; exact HM2.out.2.1.there HS.out.2.1) (slot_sizeG _) (all_oneCell_toArray (slot_ones _)) ?_
       obtain ⟨w3, hw3⟩ : ∃ w3, w3 = World.setCells w2 gs (n * 37) (slotL .tomb).toArray.toList := ⟨_, rfl⟩
       rw [← hw3]
       have HM3 := Lib.hid (HF3.out w2 w3 HM2.out hw3)
       have ha3 := HM3.out.2.2.1
       clear hw3 c1
       obtain ⟨x, hx⟩ : ∃ x : Int, x = ((u + 1 : Nat) : Int) := ⟨_, rfl⟩
       rw [← hx] at ha3
       have c1 := ha3.cell 1
       have c2 := ha3.cell 2
       have f1 := ha3.free 1
       have f2 := ha3.free 2
       have HX := Lib.hid hx
       have hw1 : wrap64 (x - 1) = (u : Int) := by rw [hx, IntWalk.wrap64_in _ (by have := HS.out.2.2.1; omega)]; omega
       have hw2 : wrap64 ((t : Int) + 1) = ((t + 1 : Nat) : Int) := by rw [IntWalk.wrap64_in _ (by have := HS.out.2.2.2.1; omega)]; omega
       clear hx ha3))
  obtain ⟨w4, hw4⟩ : ∃ w4, w4 = (w3.setCell ⟨ga, 1, none⟩ (.int .i64 (u : Int))).setCell ⟨ga, 2, none⟩ (.int .i64 ((t : Int) + 1)) := ⟨_, rfl⟩
  have m4 : Mod (one ga) w3 w4 := by rw [hw4]; exact ((Mod.refl (one ga) w3).set (p := ⟨ga, 1, none⟩) (fun _ => (rfl : one ga ga)) _).set (p := ⟨ga, 2, none⟩) (fun _ => (rfl : one ga ga)) _
  have ha4 : Blk w4 ga 136 #[.slice (some ⟨gs, 0, none⟩) l.length l.length, .int .i64 (u : Int), .int .i64 ((t : Int) + 1)] := by
    rw [hw4]
    exact (HM3.out.2.2.1.put 1 _).put 2 _
  have r4 : w4.rangeAt (w.heap.size + 1) 0 (entO s).L := fun j v hv => by
    rw [m4.cell (p := ⟨w.heap.size + 1, 0 + j, none⟩) (cell_below (HM3.out.2.2.2.1 j v hv)) (fun c => by have c : w.heap.size + 1 = ga := c; have := HS.out.2.2.2.2.1; omega)]
    exact HM3.out.2.2.2.1 j v hv
  have b4 := HM3.out.2.2.2.2.mod m4 (fun c => by have c : w.heap.size = ga := c; have := HS.out.2.2.2.2.1; omega)
  have hA4 : ArrAt w4 ga gs (l.set n .tomb) u (t + 1) := ⟨by rw [List.length_set]; exact ha4, HM3.out.2.1.mod m4 (fun c => HNE.out c.symm)⟩
  have hm4 : Mod (two ga gs) w w4 := (((HM2.out.1.mono (S' := two ga gs) (fun _ _ c => c.elim)).and_then (HM3.out.1.mono (S' := two ga gs) (fun _ _ c => .inr c)))).and_then (m4.mono (S' := two ga gs) (fun _ _ c => .inl c))
  have HE := Lib.hid (And.intro r4 (And.intro b4 (And.intro hA4 hm4)))
  rw [← hw4]
  clear hw4 m4 ha4 r4 b4 hA4 hm4 hw1 hw2 c1 c2 f1 f2
  go_wp2_with (first
    | (refine wpList_load_mid rfl 56 (.tmp 5) (by rfl) (w.heap.size + 1) 0 (by rfl) (entO s).L _ (by exact HE.out.1) Try.underlying56 rfl (ent_sizeG _) ?_)
    | (refine wpList_store_mid rfl 56 (.tmp 4) (.tmp 35) (by rfl) w.heap.size 0 (entO s).L.toArray (by rfl) (by rfl) (by exact blk_there HE.out.2.1 0 4 (by decide)) (ent_sizeG _) (all_oneCell_toArray (ent_ones _)) ?_
       obtain ⟨w5, hw5⟩ : ∃ w5, w5 = World.setCells w4 w.heap.size 0 (entO s).L.toArray.toList := ⟨_, rfl⟩
       rw [← hw5]
       have HW5 := Lib.hid hw5
       clear hw5))
  have m5 : Mod (two ga gs) w w5 := by rw [HW5.out]; exact mod_setCells (fun c => by omega) _ _ _ HE.out.2.2.2
  have m45 : Mod (one w.heap.size) w4 w5 := by rw [HW5.out]; exact mod_setCells (S := one w.heap.size) (fun _ => rfl) _ _ _ (Mod.refl _ _)
  have hA5 := HE.out.2.2.1.mod m45 (fun c => by have c : ga = w.heap.size := c; have := HS.out.2.2.2.2.1; omega) (fun c => by have c : gs = w.heap.size := c; have := HS.out.2.2.2.2.2; omega)
  have b5 : w5.rangeAt w.heap.size 0 (entO s).L := by rw [HW5.out]; exact World.rangeAt_setCells_same _ _ _ _ (blk_there HE.out.2.1 0 4 (by decide))
  exact bodyPost_ret (v := .agg (entO s).L.toArray) (ret_one (p := 4) (ty := 56) rfl _ _ w.heap.size (entO s).L _ rfl b5 Try.underlying56 rfl (ent_sizeG _)) rfl ⟨rfl, hA5, m5⟩
end Go.Proofs.Ytknbehjhaaidoaa.TB
