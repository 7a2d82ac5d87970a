/- The document's list of entries: its ends, its Push (printed by greyref.py). -/
import Derived.Test.YtknbehjhaaidoaaDgZ
namespace Go.Proofs.Ytknbehjhaaidoaa.DG
open Go.RowKit Mem DQ
set_option linter.unusedVariables false
set_option linter.unusedSimpArgs false

/-! ### An entry of a key, none of whose kids was touched -/
set_option maxRecDepth 100000 in
theorem grey_places : ∀ fields, Try.prog.underlying 89 = some (.struct fields) → fields.toList.mapM (fun f => (Try.prog.info? f.type).map fun i => (f.offset, i.size)) = some [(0, 32), (32, 1)] := by
  intro fields h
  have e : fields = #[{ name := "Key", type := 39, offset := 0, embedded := false, tag := "", pkgPath := "", byteOffset := 0 },
      { name := "Next", type := 3, offset := 32, embedded := false, tag := "", pkgPath := "", byteOffset := 32 }] := by
    have h1 := Try.underlying89.symm.trans h
    injection h1 with h1
    injection h1 with h1
    exact h1.symm
  subst e
  rfl
set_option maxRecDepth 100000 in
theorem key_built {k : List Value} (hk : k.length = 32) : Try.prog.built 89 [(0, .agg k.toArray)] = some (k ++ [Value.int .i64 0]).toArray := by
  obtain ⟨i0, hi, hz0, hz1, hz2⟩ := info_parts grey_zero
  have hus := Try.underlying89
  have hp := grey_places _ hus
  unfold Program.built
  rw [hi, hus]
  simp only [hz0]
  rw [hp]
  have hz : (Value.agg zl.toArray).cells = zl.toArray := by kernel_rfl
  obtain ⟨h1, h2⟩ := (Great.foldl_set 0 k 0 zl.toArray)
  have hsz : zl.toArray.size = 33 := rfl
  show Instr.fill (fun x => [(0, 32), (32, 1)].toArray[x]?) zl.toArray [(0, Value.agg k.toArray)] = _
  unfold Instr.fill
  simp only [Value.cells, List.size_toArray, hk, hsz]
  unfold Instr.fill
  simp [hsz]
  apply Array.ext_getElem?
  intro j
  have h3 := h2 j
  simp at h3
  rw [h3, List.getElem?_toArray]
  by_cases hj : j < 32
  · rw [if_pos ⟨by omega, by show j < 33; omega⟩, List.getElem?_append_left (by omega)]
  · rw [if_neg (by omega), List.getElem?_append_right (by omega), hk]
    unfold zl
    rw [List.getElem?_append_right (by simp; omega)]
    simp
def Key (k : List Value) : Prop := k.length = 32 ∧ ∀ v ∈ k, v.oneCell' = true
def entry (k : List Value) : List Value := k ++ [.int .i64 0]
theorem Key.ele {k : List Value} (h : Key k) : Ele (entry k) := ⟨by simp [entry, h.1], fun v hv => by
  rcases List.mem_append.1 hv with hv | hv
  · exact h.2 v hv
  · simp at hv; subst hv; rfl⟩
theorem key_infoG {k : List Value} (h : k.length = 32) : (Try.prog.info? 39).map (·.size) = some k.length := by rw [h]; kernel_rfl
section
variable {a : Act} {o : Oper} {w w' : World}
theorem y_keyG {x : Operand} {b : Nat} {k : List Value} (ho : o.op = .load 39 x) (hx : a.eval x = .pointer (some ⟨b, 0, none⟩)) (hr : w.rangeAt b 0 k) (hk : Key k) : (execOp a.eval o).run Try.prog w = .ok (.value (.agg k.toArray)) w := by
  generalize a.eval = ev at hx
  unfold execOp
  simp only [ho, hx, Sem.run_bind, run_loadAt_mid w b 0 39 k _ hr Try.underlying39 rfl (key_infoG hk.1), Result.andThen_ok, Sem.run_pure]
theorem y_buildG {x : Operand} {k : List Value} (ho : o.op = .build 89 #[(0, x)]) (hx : a.eval x = .agg k.toArray) (hk : Key k) : (execOp a.eval o).run Try.prog w = .ok (.value (.agg (entry k).toArray)) w := by
  have h := run_build (P := Try.prog) w 89 #[(0, .agg k.toArray)] _ (key_built hk.1)
  unfold execOp
  simp only [ho, hx, List.map_toArray, List.map_cons, List.map_nil, Sem.run_bind, h, Result.andThen_ok, Sem.run_pure]
  rfl
end
theorem wpList_entry {ops : Array Oper} {rest : List Oper} {o : Oper} {a : Act} {w : World} {Q : Exit → Act → World → Prop} (hgd : o.guard = none) (x : Operand) (ho : o.op = .build 89 #[(0, x)]) (k : List Value) (hx : a.eval x = .agg k.toArray) (hk : Key k)
    (h : wpList Try.prog ops Q rest (a.put o.dst (.agg (entry k).toArray)) w) : wpList Try.prog ops Q (o :: rest) a w :=
  wpList_plain hgd fun K hK => op_yield (y_buildG ho hx hk) (hK _ _ h)

/-! ### The document's list -/
/-- The document's list at block r, its row at A. -/
structure RAt (w : World) (r : Nat) (A : Option Addr) (L : List (List Value)) : Prop where
  at_ : ∃ c, Blk w r 37 #[.slice A L.length c] ∧ Src w A L ∧ L.length ≤ c
/-- The same, its row new. -/
def RNew (w w' : World) (r : Nat) (L : List (List Value)) : Prop := ∃ A, RAt w' r A L ∧ ∀ b o, A = some ⟨b, o, none⟩ → w.heap.size ≤ b
theorem RAt.mod {S : Nat → Prop} {w w' : World} {r : Nat} {A : Option Addr} {L : List (List Value)} (h : RAt w r A L) (hm : Mod S w w') (h1 : ¬ S r) (h2 : ∀ b o, A = some ⟨b, o, none⟩ → ¬ S b) : RAt w' r A L := by
  obtain ⟨c, hb, hs, hc⟩ := h.at_
  exact ⟨c, hb.mod hm h1, hs.mod hm h2, hc⟩
theorem RAt.mod_no {w w' : World} {r : Nat} {A : Option Addr} {L : List (List Value)} (h : RAt w r A L) (hm : Mod no w w') : RAt w' r A L := h.mod hm (fun c => c) (fun _ _ _ c => c)
/-- A row of the call's own is laid into it. -/
theorem RNew.laid {w0 w : World} {r base : Nat} {v : Value} {L : List (List Value)} {old : Value} (h : w.ownsRow base 89 33 v L.length L.flatten) (he : ∀ x ∈ L, Ele x) (hb : Blk w r 37 #[old]) (hr : r < base) (h0 : w0.heap.size ≤ base) : RNew w0 (w.setCell ⟨r, 0, none⟩ v) r L := by
  obtain ⟨A, c, rfl, hs, hA, hc⟩ := Src.own h he
  refine ⟨A, ⟨c, by simpa using hb.put 0 (.slice A L.length c), hs.mod ((Mod.refl (one r) w).set (p := ⟨r, 0, none⟩) (fun _ => rfl) _) (fun b o e k => ?_), hc⟩, fun b o e => by have := (hA b o e).1; omega⟩
  have k : b = r := k
  have := (hA b o e).1
  omega

def endN (bottom : Bool) (n : Nat) : Nat := if bottom then 0 else n - 1
def rendV (bottom : Bool) (n : Nat) : Int := if n = 0 then -1 else (endN bottom n : Int)
set_option maxRecDepth 100000 in
set_option maxHeartbeats 4000000 in
theorem rend_any {w : World} {r : Nat} {bottom : Bool} {A : Option Addr} {n c : Nat} (h : Blk w r 37 #[.slice A n c]) (hn : n ≤ 1048600) :
    Calls Try.prog 77 #[.pointer (some ⟨r, 0, none⟩), .bool bottom] w fun e w' => e = .returned (.int .i64 (rendV bottom n)) ∧ w = w' := by
  have c0 := h.cell 0
  simp at c0
  have hw64 : wrap64 ((n : Int) - 1) = (n : Int) - 1 := IntWalk.wrap64_in _ (by omega)
  clear h
  cases bottom
  · go_enter Try.func77, Try.ntmps77
    go_wp2_with fail
    go_ret
    refine ⟨?_, rfl⟩
    have e : rendV false n = (n : Int) - 1 := by
      unfold rendV endN
      by_cases h0 : n = 0
      · subst h0; rfl
      · rw [if_neg h0, if_neg (by decide)]; omega
    rw [e]
    rfl
  · by_cases h0 : n = 0
    · subst h0
      go_enter Try.func77, Try.ntmps77
      go_wp2_with fail
      go_ret
      exact ⟨rfl, rfl⟩
    · have hg : (0 : Int) < (n : Int) := by omega
      go_enter Try.func77, Try.ntmps77
      go_wp2_with fail
      go_ret
      refine ⟨?_, rfl⟩
      have e : rendV true n = 0 := by
        unfold rendV endN
        rw [if_neg h0]
        rfl
      rw [e]
      rfl

set_option maxRecDepth 100000 in
set_option maxHeartbeats 4000000 in
theorem rat_has {w : World} {r : Nat} {bottom : Bool} {A : Option Addr} {L : List (List Value)} {x : List Value} (h : RAt w r A L) (hL : L.length ≤ 1048600) (hx : L[endN bottom L.length]? = some x) :
    Calls Try.prog 41 #[.pointer (some ⟨r, 0, none⟩), .bool bottom] w fun e w' => e = .returned (.tuple #[.agg x.toArray, .bool true]) ∧ Mod no w w' := by
  obtain ⟨c, hb, hs, hc⟩ := h.at_
  have hlt := (List.getElem?_eq_some_iff.1 hx).1
  have hel := hs.e x (List.mem_of_getElem? hx)
  obtain ⟨b, o, rfl, hbl, hr⟩ := hs.at_ (by omega)
  obtain ⟨i, hi⟩ : ∃ i, i = endN bottom L.length := ⟨_, rfl⟩
  rw [← hi] at hx hlt
  have m1 : Mod no w (w.alloc (.cells #[.int .u8 0, .int .u8 0, .int .u8 0, .int .u8 0, .int .u8 0, .int .u8 0, .int .u8 0, .int .u8 0, .int .u8 0, .int .u8 0, .int .u8 0, .int .u8 0, .int .u8 0, .int .u8 0, .int .u8 0, .int .u8 0, .int .u8 0, .int .u8 0, .int .u8 0, .int .u8 0, .int .u8 0, .int .u8 0, .int .u8 0, .int .u8 0, .int .u8 0, .int .u8 0, .int .u8 0, .int .u8 0, .int .u8 0, .int .u8 0, .int .u8 0, .int .u8 0, .int .i64 0] 89)) := (Mod.refl no w).alloc _
  have hrg : (w.alloc (.cells #[.int .u8 0, .int .u8 0, .int .u8 0, .int .u8 0, .int .u8 0, .int .u8 0, .int .u8 0, .int .u8 0, .int .u8 0, .int .u8 0, .int .u8 0, .int .u8 0, .int .u8 0, .int .u8 0, .int .u8 0, .int .u8 0, .int .u8 0, .int .u8 0, .int .u8 0, .int .u8 0, .int .u8 0, .int .u8 0, .int .u8 0, .int .u8 0, .int .u8 0, .int .u8 0, .int .u8 0, .int .u8 0, .int .u8 0, .int .u8 0, .int .u8 0, .int .u8 0, .int .i64 0] 89)).rangeAt b (o + i * 33) x := fun j u hu => by rw [m1.cell hbl (fun c => c)]; exact hr i x hx j u hu
  have H0 := Lib.hid (And.intro (hb.mod m1 (fun c => c)) (And.intro hrg (And.intro (Blk.new w 89 #[.int .u8 0, .int .u8 0, .int .u8 0, .int .u8 0, .int .u8 0, .int .u8 0, .int .u8 0, .int .u8 0, .int .u8 0, .int .u8 0, .int .u8 0, .int .u8 0, .int .u8 0, .int .u8 0, .int .u8 0, .int .u8 0, .int .u8 0, .int .u8 0, .int .u8 0, .int .u8 0, .int .u8 0, .int .u8 0, .int .u8 0, .int .u8 0, .int .u8 0, .int .u8 0, .int .u8 0, .int .u8 0, .int .u8 0, .int .u8 0, .int .u8 0, .int .u8 0, .int .i64 0]) m1)))
  have HP := Lib.hid (And.intro hel (And.intro hi hL))
  have hi0 : ¬ (i : Int) < 0 := by omega
  have hi1 : (i : Int) < (L.length : Int) := by omega
  have c0 := (hb.mod m1 (fun c => c)).cell 0
  simp at c0
  have hn0 : ¬ L.length = 0 := by omega
  clear hb hs hc hel hr hx hi hL m1 hrg h
  go_enter Try.func41, Try.ntmps41
  go_wp2_with fail
  generalize w.alloc (.cells #[.int .u8 0, .int .u8 0, .int .u8 0, .int .u8 0, .int .u8 0, .int .u8 0, .int .u8 0, .int .u8 0, .int .u8 0, .int .u8 0, .int .u8 0, .int .u8 0, .int .u8 0, .int .u8 0, .int .u8 0, .int .u8 0, .int .u8 0, .int .u8 0, .int .u8 0, .int .u8 0, .int .u8 0, .int .u8 0, .int .u8 0, .int .u8 0, .int .u8 0, .int .u8 0, .int .u8 0, .int .u8 0, .int .u8 0, .int .u8 0, .int .u8 0, .int .u8 0, .int .i64 0] 89) = w1 at *
  refine (rend_any H0.out.1 HP.out.2.2).mono ?_
  rintro e w2 ⟨rfl, rfl⟩
  rw [show rendV bottom L.length = (endN bottom L.length : Int) from if_neg hn0, ← HP.out.2.1]
  go_wp2_with (first
    | (refine wpList_load_mid rfl 89 (.tmp 18) rfl b (o + i * 33) rfl x _ H0.out.2.1 Try.underlying89 rfl (grey_info HP.out.1.1) ?_)
    | (refine wpList_store_mid rfl 89 (.tmp 4) (.tmp 19) rfl w.heap.size 0 x.toArray rfl rfl (by rw [ele_size HP.out.1]; exact var_there H0.out.2.2.1 rfl) (ele_info HP.out.1) (ele_one HP.out.1) ?_
       simp only [List.toList_toArray]
       have H5 := Lib.hid (And.intro (var_set H0.out.2.2.1 rfl HP.out.1).1 (mod_new H0.out.2.2.2 (var_set H0.out.2.2.1 rfl HP.out.1).2 (Nat.le_refl _)))
       generalize w1.setCells w.heap.size 0 x = w5 at *))
  exact grey_done HP.out.1.1 (var_range H5.out.1) _ rfl rfl rfl _ Try.results41 _ ⟨rfl, H5.out.2⟩

set_option maxRecDepth 100000 in
set_option maxHeartbeats 4000000 in
theorem rat_none {w : World} {r : Nat} {bottom : Bool} {A : Option Addr} (h : RAt w r A []) :
    Calls Try.prog 41 #[.pointer (some ⟨r, 0, none⟩), .bool bottom] w fun e w' => e = .returned (.tuple #[.agg zl.toArray, .bool false]) ∧ Mod no w w' := by
  obtain ⟨c, hb, hs, hc⟩ := h.at_
  have m1 : Mod no w (w.alloc (.cells #[.int .u8 0, .int .u8 0, .int .u8 0, .int .u8 0, .int .u8 0, .int .u8 0, .int .u8 0, .int .u8 0, .int .u8 0, .int .u8 0, .int .u8 0, .int .u8 0, .int .u8 0, .int .u8 0, .int .u8 0, .int .u8 0, .int .u8 0, .int .u8 0, .int .u8 0, .int .u8 0, .int .u8 0, .int .u8 0, .int .u8 0, .int .u8 0, .int .u8 0, .int .u8 0, .int .u8 0, .int .u8 0, .int .u8 0, .int .u8 0, .int .u8 0, .int .u8 0, .int .i64 0] 89)) := (Mod.refl no w).alloc _
  have H0 := Lib.hid (And.intro (hb.mod m1 (fun c => c)) (And.intro (Blk.new w 89 #[.int .u8 0, .int .u8 0, .int .u8 0, .int .u8 0, .int .u8 0, .int .u8 0, .int .u8 0, .int .u8 0, .int .u8 0, .int .u8 0, .int .u8 0, .int .u8 0, .int .u8 0, .int .u8 0, .int .u8 0, .int .u8 0, .int .u8 0, .int .u8 0, .int .u8 0, .int .u8 0, .int .u8 0, .int .u8 0, .int .u8 0, .int .u8 0, .int .u8 0, .int .u8 0, .int .u8 0, .int .u8 0, .int .u8 0, .int .u8 0, .int .u8 0, .int .u8 0, .int .i64 0]) m1))
  clear hb hs hc m1 h
  go_enter Try.func41, Try.ntmps41
  go_wp2_with fail
  generalize w.alloc (.cells #[.int .u8 0, .int .u8 0, .int .u8 0, .int .u8 0, .int .u8 0, .int .u8 0, .int .u8 0, .int .u8 0, .int .u8 0, .int .u8 0, .int .u8 0, .int .u8 0, .int .u8 0, .int .u8 0, .int .u8 0, .int .u8 0, .int .u8 0, .int .u8 0, .int .u8 0, .int .u8 0, .int .u8 0, .int .u8 0, .int .u8 0, .int .u8 0, .int .u8 0, .int .u8 0, .int .u8 0, .int .u8 0, .int .u8 0, .int .u8 0, .int .u8 0, .int .u8 0, .int .i64 0] 89) = w1 at *
  refine (rend_any H0.out.1 (by decide)).mono ?_
  rintro e w2 ⟨rfl, rfl⟩
  rw [show rendV bottom ([] : List (List Value)).length = -1 from rfl]
  go_wp2_with (first
    | (refine wpList_store_mid rfl 89 (.tmp 4) (.tmp 12) rfl w.heap.size 0 zl.toArray rfl rfl (var_there H0.out.2.1 rfl) (ele_info zl_ele) (ele_one zl_ele) ?_
       simp only [List.toList_toArray]
       have H5 := Lib.hid (And.intro (var_set H0.out.2.1 rfl zl_ele).1 (mod_new H0.out.2.2 (var_set H0.out.2.1 rfl zl_ele).2 (Nat.le_refl _)))
       generalize w1.setCells w.heap.size 0 zl = w5 at *))
  exact grey_done zl_ele.1 (var_range H5.out.1) _ rfl rfl rfl _ Try.results41 _ ⟨rfl, H5.out.2⟩

set_option maxRecDepth 100000 in
set_option maxHeartbeats 4000000 in
theorem rpush_any {w : World} {r : Nat} {A : Option Addr} {L : List (List Value)} {k : List Value} (h : RAt w r A L) (hL : L.length ≤ 1048600) (hk : Key k) :
    Calls Try.prog 39 #[.pointer (some ⟨r, 0, none⟩), .agg k.toArray] w fun e w' => e = .returned (.tuple #[]) ∧ RNew w w' r (L ++ [entry k]) ∧ Mod (one r) w w' := by
  obtain ⟨c, hb, hs, hc⟩ := h.at_
  have m1 : Mod no w (w.alloc (.cells k.toArray 39)) := (Mod.refl no w).alloc _
  have hrl := hb.lt
  have H0 := Lib.hid (And.intro (hb.mod m1 (fun c => c)) (And.intro (hs.mod_no m1) (And.intro (Blk.new w 39 k.toArray) m1)))
  have HP := Lib.hid (And.intro hk (And.intro hL hs.e))
  have c0 := (hb.mod m1 (fun c => c)).cell 0
  simp at c0
  clear hb hs hc m1 h hk hL
  go_enter Try.func39, Try.ntmps39
  go_wp2_with fail
  generalize w.alloc (.cells k.toArray 39) = w1 at *
  refine (greys_any H0.out.2.1 HP.out.2.1).mono ?_
  rintro e w2 ⟨v, rfl, hown, m2⟩
  have hs1 := H0.out.2.2.2.size
  have hb2 := H0.out.1.mod m2 (fun c => c)
  have hk2 := H0.out.2.2.1.mod m2 (fun c => c)
  have m3 : Mod no w2 (w2.alloc (.cells (entry k).toArray 89)) := (Mod.refl no w2).alloc _
  have H2 := Lib.hid (And.intro hk2 (And.intro (own_mod33 hown m3 (fun _ _ _ c => c)) (And.intro (Blk.new w2 89 (entry k).toArray) (And.intro (m2.and_then m3) (hb2.mod m3 (fun c => c))))))
  clear hown m2 hb2 hk2 m3 c0
  have HRG := Lib.hid (show w2.rangeAt w.heap.size 0 k from fun j u hu => by rw [H2.out.1.cell, Nat.zero_add, List.getElem?_toArray]; exact hu)
  go_wp2_with (first
    | (refine wpList_load_mid rfl 39 (.tmp 3) rfl w.heap.size 0 rfl k _ HRG.out Try.underlying39 rfl (key_infoG HP.out.1.1) ?_)
    | (refine wpList_entry rfl (.tmp 11) rfl k rfl HP.out.1 ?_)
    | (refine wpList_one rfl (.tmp 12) rfl (entry k) rfl HP.out.1.ele ?_
       generalize w2.alloc (.cells (entry k).toArray 89) = w3 at *)
    | (refine wpList_app rfl (.tmp 10) (.tmp 13) rfl w1.heap.size L.length w2.heap.size v _ (entry k) rfl rfl H2.out.2.1 H2.out.2.2.1 HP.out.1.ele (by have := HP.out.2.1; omega) H2.out.2.2.2.1.size ?_
       intro v' w5 hown5 hg5 hat5
       obtain ⟨A5, c5, rfl⟩ := own_form hown5
       have M5 : Mod no w w5 := H0.out.2.2.2.and_then (app_mod H2.out.2.1 hg5 (Nat.le_refl _) H2.out.2.2.2.1)
       have hb5 : Blk w5 r 37 #[.slice A L.length c] := H0.out.1.mod (app_mod H2.out.2.1 hg5 (Nat.le_refl _) H2.out.2.2.2.1) (fun c => c)
       have c0 := hb5.cell 0
       have f0 := hb5.free 0
       simp at c0
       have H5 := Lib.hid (And.intro hown5 (And.intro M5 hb5))
       clear hown5 hg5 hat5 M5 hb5))
  go_end0
  refine ⟨rfl, RNew.laid ?_ ?_ H5.out.2.2 (by omega) hs1, (H5.out.2.1.mono (S' := one r) (fun _ _ c => c.elim)).set (p := ⟨r, 0, none⟩) (fun _ => rfl) _⟩
  · rw [List.length_append, List.flatten_append]
    simpa using H5.out.1
  · intro x hx
    rcases List.mem_append.1 hx with hx | hx
    · exact HP.out.2.2 x hx
    · simp at hx; subst hx; exact HP.out.1.ele

end Go.Proofs.Ytknbehjhaaidoaa.DG
