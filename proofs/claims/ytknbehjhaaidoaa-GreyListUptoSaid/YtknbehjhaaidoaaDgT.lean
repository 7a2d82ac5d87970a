/- The row with two ends, of work list's entries: what takes off and puts (printed by greypops.py). -/
import Derived.Test.YtknbehjhaaidoaaDgS
namespace Go.Proofs.Ytknbehjhaaidoaa.DG
open Go.RowKit Mem DQ
set_option linter.unusedVariables false
set_option linter.unusedSimpArgs false

/-! ### A variable of 33 cells -/
section
variable {w : World} {v : Nat} {cs : Array Value} {x : List Value}
theorem var_there (h : Blk w v 89 cs) (hc : cs.size = 33) : w.there v 0 33 := fun j hj => ⟨by rw [h.cell, Array.getElem?_eq_getElem (by omega)]; rfl, h.free _⟩
theorem var_put (h : Blk w v 89 cs) (hc : cs.size = 33) (hx : x.length = 33) : Blk (w.setCells v 0 x) v 89 x.toArray := by
  have h1 := blk_sets v x 0 cs.toList w (by simpa using h) (by simp; omega)
  rw [List.take_zero, List.nil_append, Nat.zero_add, List.drop_of_length_le (by simp; omega), List.append_nil] at h1
  exact h1
theorem var_range (h : Blk w v 89 x.toArray) : w.rangeAt v 0 x := fun j u hu => by
  rw [h.cell, Nat.zero_add, List.getElem?_toArray]; exact hu
end
theorem var_set {w : World} {v : Nat} {cs : Array Value} {x : List Value} (h : Blk w v 89 cs) (hc : cs.size = 33) (hx : Ele x) : Blk (w.setCells v 0 x) v 89 x.toArray ∧ Mod (one v) w (w.setCells v 0 x) :=
  ⟨var_put h hc hx.1, mod_setCells (S := one v) (show one v v from rfl) x 0 _ (Mod.refl _ _)⟩
theorem ele_size {x : List Value} (h : Ele x) : x.toArray.size = 33 := by rw [List.size_toArray]; exact h.1
theorem ele_info {x : List Value} (h : Ele x) : (Try.prog.info? 89).map (·.size) = some x.toArray.size := by rw [List.size_toArray]; exact grey_info h.1
theorem ele_one {x : List Value} (h : Ele x) : x.toArray.all (·.oneCell') = true := all_oneCell_toArray h.2
theorem mod_new {w w1 w2 : World} {S : Nat → Prop} {v : Nat} (h : Mod S w w1) (h' : Mod (one v) w1 w2) (hv : w.heap.size ≤ v) : Mod S w w2 := h.trans h' fun b hb c => by have c : b = v := c; omega
/-- One result, in a variable's cells. -/
theorem grey_one {w9 : World} {q : Nat} {x : List Value} {c : Tmp} (hx : x.length = 33) (hr9 : w9.rangeAt q 0 x) (a : Act) (h4 : a.tmps[c]? = some (.pointer (some ⟨q, 0, none⟩))) (hd : a.defers = []) (fn : Func) (hr : fn.results = #[.cell c 89]) (R : Ending → World → Prop) (h : R (.returned (.agg x.toArray)) w9) :
    bodyPost Try.prog fn R Exit.ret a w9 := by
  have hload := run_loadVar_mid (P := Try.prog) w9 q 0 89 x _ hr9 Try.underlying89 rfl (grey_info hx)
  refine bodyPost_ret (v := .agg x.toArray) ?_ hd h
  simp [results, hr, h4, asAddr, hload]
theorem zl_arr : zl.toArray = #[.int .u8 0, .int .u8 0, .int .u8 0, .int .u8 0, .int .u8 0, .int .u8 0, .int .u8 0, .int .u8 0, .int .u8 0, .int .u8 0, .int .u8 0, .int .u8 0, .int .u8 0, .int .u8 0, .int .u8 0, .int .u8 0, .int .u8 0, .int .u8 0, .int .u8 0, .int .u8 0, .int .u8 0, .int .u8 0, .int .u8 0, .int .u8 0, .int .u8 0, .int .u8 0, .int .u8 0, .int .u8 0, .int .u8 0, .int .u8 0, .int .u8 0, .int .u8 0, .int .i64 0] := rfl

set_option maxRecDepth 100000 in
set_option maxHeartbeats 4000000 in
theorem take_any {w : World} {g gr f i p : Nat} {v3 : Value} {C : List (List Value)} {x : List Value} (d : Blk w g 121 #[.bool true, .slice (some ⟨gr, 0, none⟩) C.length C.length, .int .i64 (f : Int), v3]) (r : Blk w gr 89 C.flatten.toArray) (he : ∀ y ∈ C, Ele y) (hb : C.length ≤ 4000000) (hp : p = (f + i) % C.length) (hf : f ≤ 10000000) (hi : i ≤ 10000000) (hcx : C[p]? = some x) (hne : g ≠ gr) :
    Calls Try.prog 101 #[.pointer (some ⟨g, 0, none⟩), .int .i64 (i : Int)] w fun e w' => e = .returned (.agg x.toArray) ∧ Blk w' gr 89 (C.set p zl).flatten.toArray ∧ Mod (one gr) w w' := by
  have hpl : p < C.length := (List.getElem?_eq_some_iff.1 hcx).1
  have hel := he x (List.mem_of_getElem? hcx)
  have hlen : ∀ y ∈ C, y.length = 33 := fun y hy => (he y hy).1
  have HF := Lib.hid (show f ≤ 10000000 ∧ i ≤ 10000000 ∧ 0 < C.length ∧ C.length ≤ 10000000 by omega)
  have HP := Lib.hid (And.intro hp (And.intro hpl (And.intro hcx (And.intro hel hlen))))
  have hgl := d.lt
  have hgrl := r.lt
  have HH := Lib.hid (And.intro d r)
  clear d r he hb hp hf hi hcx hpl hel hlen
  go_enter Try.func101, Try.ntmps101
  go_wp2_with fail
  have m0 : Mod no w ((w.alloc (.cells #[.int .u8 0, .int .u8 0, .int .u8 0, .int .u8 0, .int .u8 0, .int .u8 0, .int .u8 0, .int .u8 0, .int .u8 0, .int .u8 0, .int .u8 0, .int .u8 0, .int .u8 0, .int .u8 0, .int .u8 0, .int .u8 0, .int .u8 0, .int .u8 0, .int .u8 0, .int .u8 0, .int .u8 0, .int .u8 0, .int .u8 0, .int .u8 0, .int .u8 0, .int .u8 0, .int .u8 0, .int .u8 0, .int .u8 0, .int .u8 0, .int .u8 0, .int .u8 0, .int .i64 0] 89)).alloc (.cells #[.int .u8 0, .int .u8 0, .int .u8 0, .int .u8 0, .int .u8 0, .int .u8 0, .int .u8 0, .int .u8 0, .int .u8 0, .int .u8 0, .int .u8 0, .int .u8 0, .int .u8 0, .int .u8 0, .int .u8 0, .int .u8 0, .int .u8 0, .int .u8 0, .int .u8 0, .int .u8 0, .int .u8 0, .int .u8 0, .int .u8 0, .int .u8 0, .int .u8 0, .int .u8 0, .int .u8 0, .int .u8 0, .int .u8 0, .int .u8 0, .int .u8 0, .int .u8 0, .int .i64 0] 89)) := ((Mod.refl no w).alloc _).alloc _
  have H0 := Lib.hid (And.intro (HH.out.1.mod m0 (fun c => c)) (And.intro (HH.out.2.mod m0 (fun c => c)) m0))
  have b4 : Blk ((w.alloc (.cells #[.int .u8 0, .int .u8 0, .int .u8 0, .int .u8 0, .int .u8 0, .int .u8 0, .int .u8 0, .int .u8 0, .int .u8 0, .int .u8 0, .int .u8 0, .int .u8 0, .int .u8 0, .int .u8 0, .int .u8 0, .int .u8 0, .int .u8 0, .int .u8 0, .int .u8 0, .int .u8 0, .int .u8 0, .int .u8 0, .int .u8 0, .int .u8 0, .int .u8 0, .int .u8 0, .int .u8 0, .int .u8 0, .int .u8 0, .int .u8 0, .int .u8 0, .int .u8 0, .int .i64 0] 89)).alloc (.cells #[.int .u8 0, .int .u8 0, .int .u8 0, .int .u8 0, .int .u8 0, .int .u8 0, .int .u8 0, .int .u8 0, .int .u8 0, .int .u8 0, .int .u8 0, .int .u8 0, .int .u8 0, .int .u8 0, .int .u8 0, .int .u8 0, .int .u8 0, .int .u8 0, .int .u8 0, .int .u8 0, .int .u8 0, .int .u8 0, .int .u8 0, .int .u8 0, .int .u8 0, .int .u8 0, .int .u8 0, .int .u8 0, .int .u8 0, .int .u8 0, .int .u8 0, .int .u8 0, .int .i64 0] 89)) w.heap.size 89 #[.int .u8 0, .int .u8 0, .int .u8 0, .int .u8 0, .int .u8 0, .int .u8 0, .int .u8 0, .int .u8 0, .int .u8 0, .int .u8 0, .int .u8 0, .int .u8 0, .int .u8 0, .int .u8 0, .int .u8 0, .int .u8 0, .int .u8 0, .int .u8 0, .int .u8 0, .int .u8 0, .int .u8 0, .int .u8 0, .int .u8 0, .int .u8 0, .int .u8 0, .int .u8 0, .int .u8 0, .int .u8 0, .int .u8 0, .int .u8 0, .int .u8 0, .int .u8 0, .int .i64 0] := (Blk.new w _ _).alloc _
  have b5 : Blk ((w.alloc (.cells #[.int .u8 0, .int .u8 0, .int .u8 0, .int .u8 0, .int .u8 0, .int .u8 0, .int .u8 0, .int .u8 0, .int .u8 0, .int .u8 0, .int .u8 0, .int .u8 0, .int .u8 0, .int .u8 0, .int .u8 0, .int .u8 0, .int .u8 0, .int .u8 0, .int .u8 0, .int .u8 0, .int .u8 0, .int .u8 0, .int .u8 0, .int .u8 0, .int .u8 0, .int .u8 0, .int .u8 0, .int .u8 0, .int .u8 0, .int .u8 0, .int .u8 0, .int .u8 0, .int .i64 0] 89)).alloc (.cells #[.int .u8 0, .int .u8 0, .int .u8 0, .int .u8 0, .int .u8 0, .int .u8 0, .int .u8 0, .int .u8 0, .int .u8 0, .int .u8 0, .int .u8 0, .int .u8 0, .int .u8 0, .int .u8 0, .int .u8 0, .int .u8 0, .int .u8 0, .int .u8 0, .int .u8 0, .int .u8 0, .int .u8 0, .int .u8 0, .int .u8 0, .int .u8 0, .int .u8 0, .int .u8 0, .int .u8 0, .int .u8 0, .int .u8 0, .int .u8 0, .int .u8 0, .int .u8 0, .int .i64 0] 89)) (w.heap.size + 1) 89 #[.int .u8 0, .int .u8 0, .int .u8 0, .int .u8 0, .int .u8 0, .int .u8 0, .int .u8 0, .int .u8 0, .int .u8 0, .int .u8 0, .int .u8 0, .int .u8 0, .int .u8 0, .int .u8 0, .int .u8 0, .int .u8 0, .int .u8 0, .int .u8 0, .int .u8 0, .int .u8 0, .int .u8 0, .int .u8 0, .int .u8 0, .int .u8 0, .int .u8 0, .int .u8 0, .int .u8 0, .int .u8 0, .int .u8 0, .int .u8 0, .int .u8 0, .int .u8 0, .int .i64 0] := by
    have h := Blk.new (w.alloc (.cells #[.int .u8 0, .int .u8 0, .int .u8 0, .int .u8 0, .int .u8 0, .int .u8 0, .int .u8 0, .int .u8 0, .int .u8 0, .int .u8 0, .int .u8 0, .int .u8 0, .int .u8 0, .int .u8 0, .int .u8 0, .int .u8 0, .int .u8 0, .int .u8 0, .int .u8 0, .int .u8 0, .int .u8 0, .int .u8 0, .int .u8 0, .int .u8 0, .int .u8 0, .int .u8 0, .int .u8 0, .int .u8 0, .int .u8 0, .int .u8 0, .int .u8 0, .int .u8 0, .int .i64 0] 89)) 89 #[.int .u8 0, .int .u8 0, .int .u8 0, .int .u8 0, .int .u8 0, .int .u8 0, .int .u8 0, .int .u8 0, .int .u8 0, .int .u8 0, .int .u8 0, .int .u8 0, .int .u8 0, .int .u8 0, .int .u8 0, .int .u8 0, .int .u8 0, .int .u8 0, .int .u8 0, .int .u8 0, .int .u8 0, .int .u8 0, .int .u8 0, .int .u8 0, .int .u8 0, .int .u8 0, .int .u8 0, .int .u8 0, .int .u8 0, .int .u8 0, .int .u8 0, .int .u8 0, .int .i64 0]
    rw [show (w.alloc (.cells #[.int .u8 0, .int .u8 0, .int .u8 0, .int .u8 0, .int .u8 0, .int .u8 0, .int .u8 0, .int .u8 0, .int .u8 0, .int .u8 0, .int .u8 0, .int .u8 0, .int .u8 0, .int .u8 0, .int .u8 0, .int .u8 0, .int .u8 0, .int .u8 0, .int .u8 0, .int .u8 0, .int .u8 0, .int .u8 0, .int .u8 0, .int .u8 0, .int .u8 0, .int .u8 0, .int .u8 0, .int .u8 0, .int .u8 0, .int .u8 0, .int .u8 0, .int .u8 0, .int .i64 0] 89)).heap.size = w.heap.size + 1 from by simp] at h
    exact h
  have HB := Lib.hid (And.intro b4 b5)
  clear m0 b4 b5
  generalize ((w.alloc (.cells #[.int .u8 0, .int .u8 0, .int .u8 0, .int .u8 0, .int .u8 0, .int .u8 0, .int .u8 0, .int .u8 0, .int .u8 0, .int .u8 0, .int .u8 0, .int .u8 0, .int .u8 0, .int .u8 0, .int .u8 0, .int .u8 0, .int .u8 0, .int .u8 0, .int .u8 0, .int .u8 0, .int .u8 0, .int .u8 0, .int .u8 0, .int .u8 0, .int .u8 0, .int .u8 0, .int .u8 0, .int .u8 0, .int .u8 0, .int .u8 0, .int .u8 0, .int .u8 0, .int .i64 0] 89)).alloc (.cells #[.int .u8 0, .int .u8 0, .int .u8 0, .int .u8 0, .int .u8 0, .int .u8 0, .int .u8 0, .int .u8 0, .int .u8 0, .int .u8 0, .int .u8 0, .int .u8 0, .int .u8 0, .int .u8 0, .int .u8 0, .int .u8 0, .int .u8 0, .int .u8 0, .int .u8 0, .int .u8 0, .int .u8 0, .int .u8 0, .int .u8 0, .int .u8 0, .int .u8 0, .int .u8 0, .int .u8 0, .int .u8 0, .int .u8 0, .int .u8 0, .int .u8 0, .int .u8 0, .int .i64 0] 89)) = w1 at *
  refine (place_any HP.out.1 H0.out.1 HF.out.1 HF.out.2.1 HF.out.2.2.1 HF.out.2.2.2).mono ?_
  rintro e w2 ⟨rfl, n2, hw2⟩
  have m2 : Mod no w1 w2 := by rw [hw2]; exact (Mod.refl no _).drewN n2
  have H2 := Lib.hid (And.intro (H0.out.1.mod m2 (fun c => c)) (And.intro (H0.out.2.1.mod m2 (fun c => c)) (And.intro (H0.out.2.2.and_then m2) (And.intro (HB.out.1.mod m2 (fun c => c)) (HB.out.2.mod m2 (fun c => c))))))
  clear m2 hw2 H0 HB
  have e1 := H2.out.1.cell 1
  simp at e1
  have hs2 := H2.out.2.2.1.size
  have hpl := HP.out.2.1
  have hpi : (p : Int) < (C.length : Int) := by omega
  go_wp2_with (first
    | (refine wpList_load_mid rfl 89 (.tmp 16) rfl gr (p * 33) rfl x _ (blk_range H2.out.2.1 HP.out.2.2.2.2 HP.out.2.2.1) Try.underlying89 rfl (grey_info HP.out.2.2.2.1.1) ?_)
    | (refine wpList_store_mid rfl 89 (.tmp 7) (.tmp 17) rfl w2.heap.size 0 x.toArray rfl rfl (by rw [ele_size HP.out.2.2.2.1]; exact var_there (Blk.new w2 _ _) rfl) (ele_info HP.out.2.2.2.1) (ele_one HP.out.2.2.2.1) ?_
       simp only [List.toList_toArray]
       obtain ⟨b7, m7⟩ := var_set (Blk.new w2 89 #[.int .u8 0, .int .u8 0, .int .u8 0, .int .u8 0, .int .u8 0, .int .u8 0, .int .u8 0, .int .u8 0, .int .u8 0, .int .u8 0, .int .u8 0, .int .u8 0, .int .u8 0, .int .u8 0, .int .u8 0, .int .u8 0, .int .u8 0, .int .u8 0, .int .u8 0, .int .u8 0, .int .u8 0, .int .u8 0, .int .u8 0, .int .u8 0, .int .u8 0, .int .u8 0, .int .u8 0, .int .u8 0, .int .u8 0, .int .u8 0, .int .u8 0, .int .u8 0, .int .i64 0]) rfl HP.out.2.2.2.1
       have m7' : Mod no w2 ((w2.alloc (.cells #[.int .u8 0, .int .u8 0, .int .u8 0, .int .u8 0, .int .u8 0, .int .u8 0, .int .u8 0, .int .u8 0, .int .u8 0, .int .u8 0, .int .u8 0, .int .u8 0, .int .u8 0, .int .u8 0, .int .u8 0, .int .u8 0, .int .u8 0, .int .u8 0, .int .u8 0, .int .u8 0, .int .u8 0, .int .u8 0, .int .u8 0, .int .u8 0, .int .u8 0, .int .u8 0, .int .u8 0, .int .u8 0, .int .u8 0, .int .u8 0, .int .u8 0, .int .u8 0, .int .i64 0] 89)).setCells w2.heap.size 0 x) := mod_new ((Mod.refl no w2).alloc _) m7 (Nat.le_refl _)
       have H3 := Lib.hid (And.intro (H2.out.1.mod m7' (fun c => c)) (And.intro (H2.out.2.1.mod m7' (fun c => c)) (And.intro (H2.out.2.2.1.and_then m7') (And.intro (H2.out.2.2.2.1.mod m7' (fun c => c)) (And.intro (H2.out.2.2.2.2.mod m7' (fun c => c)) b7)))))
       clear b7 m7 m7'
       generalize (w2.alloc (.cells #[.int .u8 0, .int .u8 0, .int .u8 0, .int .u8 0, .int .u8 0, .int .u8 0, .int .u8 0, .int .u8 0, .int .u8 0, .int .u8 0, .int .u8 0, .int .u8 0, .int .u8 0, .int .u8 0, .int .u8 0, .int .u8 0, .int .u8 0, .int .u8 0, .int .u8 0, .int .u8 0, .int .u8 0, .int .u8 0, .int .u8 0, .int .u8 0, .int .u8 0, .int .u8 0, .int .u8 0, .int .u8 0, .int .u8 0, .int .u8 0, .int .u8 0, .int .u8 0, .int .i64 0] 89)).setCells w2.heap.size 0 x = w3 at *))
  have hHc : w3.cell? ⟨g, 1, none⟩ = some (.slice (some ⟨gr, 0, none⟩) C.length C.length) := by rw [H3.out.1.cell]; rfl
  refine wp_region_held_drew (S := fun w' => w'.cell? ⟨g, 1, none⟩ = some (.slice (some ⟨gr, 0, none⟩) C.length C.length) ∧ w'.rangeAt (w.heap.size + 1) 0 zl) (by kernel_rfl) ⟨hHc, fun j u hu => var_range H3.out.2.2.2.2.1 j u hu⟩ (fun hHeld => ?_)
  refine takeD (i := 0) (d := some 18) (v := (.pointer (some ⟨g, 0, none⟩))) rfl (by kernel_rfl) (by kernel_rfl) (by kernel_rfl) rfl (fun _ _ _ h => h) (Or.inl ⟨by kernel_rfl, fun w9 hw => y_move rfl rfl⟩) hHeld ?_
  simp only [Act.put, List.setIfInBounds_toArray, List.set_cons_zero, List.set_cons_succ]
  refine takeD (i := 1) (d := some 19) (v := (.pointer (some ⟨g, 0, none⟩))) rfl (by kernel_rfl) (by kernel_rfl) (by kernel_rfl) rfl (fun _ _ _ h => h) (Or.inl ⟨by kernel_rfl, fun w9 hw => y_nil rfl rfl⟩) hHeld ?_
  simp only [Act.put, List.setIfInBounds_toArray, List.set_cons_zero, List.set_cons_succ]
  refine takeD (i := 2) (d := some 20) (v := (.pointer (some ⟨g, 1, none⟩))) rfl (by kernel_rfl) (by kernel_rfl) (by kernel_rfl) rfl (fun _ _ _ h => h) (Or.inl ⟨by kernel_rfl, fun w9 hw => y_ring rfl rfl⟩) hHeld ?_
  simp only [Act.put, List.setIfInBounds_toArray, List.set_cons_zero, List.set_cons_succ]
  refine takeD (i := 3) (d := some 21) (v := (.slice (some ⟨gr, 0, none⟩) C.length C.length)) rfl (by kernel_rfl) (by kernel_rfl) (by kernel_rfl) rfl (fun _ _ _ h => h) (Or.inl ⟨by kernel_rfl, fun w9 hw => y_load rfl (.inr rfl) rfl hw.1 rfl⟩) hHeld ?_
  simp only [Act.put, List.setIfInBounds_toArray, List.set_cons_zero, List.set_cons_succ]
  refine takeD (i := 4) (d := some 22) (v := (.int .i64 (p : Int))) rfl (by kernel_rfl) (by kernel_rfl) (by kernel_rfl) rfl (fun _ _ _ h => h) (Or.inl ⟨by kernel_rfl, fun w9 hw => y_move rfl rfl⟩) hHeld ?_
  simp only [Act.put, List.setIfInBounds_toArray, List.set_cons_zero, List.set_cons_succ]
  refine takeD (i := 5) (d := some 23) (v := (.agg zl.toArray)) rfl (by kernel_rfl) (by kernel_rfl) (by kernel_rfl) rfl (fun _ _ _ h => h) (Or.inl ⟨by kernel_rfl, fun w9 hw => y_mid rfl rfl hw.2 zl_ele.1⟩) hHeld ?_
  simp only [Act.put, List.setIfInBounds_toArray, List.set_cons_zero, List.set_cons_succ]
  refine takeD (i := 6) (d := some 24) (v := (.pointer (some ⟨gr, p * 33, none⟩))) rfl (by kernel_rfl) (by kernel_rfl) (by kernel_rfl) rfl (fun _ _ _ h => h) (Or.inl ⟨by kernel_rfl, fun w9 hw => y_index rfl rfl rfl hpl⟩) hHeld ?_
  simp only [Act.put, List.setIfInBounds_toArray, List.set_cons_zero, List.set_cons_succ]
  refine readyD (i := 7) (d := none) rfl (by kernel_rfl) rfl (by kernel_rfl) fun K hK => ?_
  have hth := blk_there (p := p) H3.out.2.1 HP.out.2.2.2.2 hpl
  refine wp_store_mid 89 (.tmp 24) (.tmp 23) rfl gr (p * 33) zl.toArray rfl rfl hth (ele_info zl_ele) (ele_one zl_ele) ?_
  simp only [List.toList_toArray]
  have mS : Mod (one gr) w3.drew (w3.drew.setCells gr (p * 33) zl) := mod_setCells (S := one gr) (show one gr gr from rfl) zl _ _ (Mod.refl _ _)
  have m3 : Mod no w3 w3.drew := (Mod.refl no w3).drew
  have hn4 : ¬ one gr w.heap.size := fun c => by have c : w.heap.size = gr := c; omega
  have hn5 : ¬ one gr (w.heap.size + 1) := fun c => by have c : w.heap.size + 1 = gr := c; omega
  have hn7 : ¬ one gr w2.heap.size := fun c => by have c : w2.heap.size = gr := c; omega
  have H4 := Lib.hid (And.intro (blk_put (w := w3.drew) (p := p) H3.out.2.1 HP.out.2.2.2.2 hpl zl_ele.1) (And.intro ((H3.out.2.2.2.1.mod m3 (fun c => c)).mod mS hn4) (And.intro ((H3.out.2.2.2.2.2.mod m3 (fun c => c)).mod mS hn7) (((H3.out.2.2.1.and_then m3).mono (S' := one gr) (fun _ _ c => c.elim)).and_then mS))))
  have hd4 := (H3.out.1.mod m3 (fun c => c)).mod mS (fun c => hne c)
  have hz4 := (H3.out.2.2.2.2.1.mod m3 (fun c => c)).mod mS hn5
  refine hK _ _ ⟨by rw [hd4.cell]; rfl, fun j u hu => var_range hz4 j u hu⟩ fun _ => ?_
  clear hK K hHeld mS hth hd4 hz4 m3 hn4 hn5 hn7 hHc
  refine wpAnyH_done (by kernel_rfl) ?_ _
  simp only [Act.put]
  clear H3
  generalize w3.drew.setCells gr (p * 33) zl = w4 at *
  go_wp2_with (first
    | (refine wpList_load_mid rfl 89 (.tmp 7) rfl w2.heap.size 0 rfl x _ (var_range H4.out.2.2.1) Try.underlying89 rfl (grey_info HP.out.2.2.2.1.1) ?_)
    | (refine wpList_store_mid rfl 89 (.tmp 4) (.tmp 25) rfl w.heap.size 0 x.toArray rfl rfl (by rw [ele_size HP.out.2.2.2.1]; exact var_there H4.out.2.1 rfl) (ele_info HP.out.2.2.2.1) (ele_one HP.out.2.2.2.1) ?_
       simp only [List.toList_toArray]
       obtain ⟨b4, m4⟩ := var_set H4.out.2.1 rfl HP.out.2.2.2.1
       have hgw : w.heap.size ≠ gr := by omega
       have H5 := Lib.hid (And.intro (H4.out.1.mod m4 (fun c => hgw c.symm)) (And.intro b4 (mod_new H4.out.2.2.2 m4 (Nat.le_refl _))))
       clear b4 m4 hgw
       generalize w4.setCells w.heap.size 0 x = w5 at *))
  refine grey_one HP.out.2.2.2.1.1 (var_range H5.out.2.1) _ rfl rfl _ Try.results101 _ ⟨rfl, H5.out.1, H5.out.2.2⟩

end Go.Proofs.Ytknbehjhaaidoaa.DG
