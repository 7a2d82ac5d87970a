/- The work list of the program, or a nil one: one more entry, one more touched kid (printed by greylist2.py). -/
import Derived.Test.YtknbehjhaaidoaaEdD
import Derived.Test.YtknbehjhaaidoaaDgW
import Derived.StillTailTactics
import Derived.Deep.RegionWith
namespace Go.Proofs.Ytknbehjhaaidoaa.DG
open Go.RowKit Mem DQ
set_option linter.unusedVariables false
set_option linter.unusedSimpArgs false

section
variable {w w' : World} {live bottom ok : Bool} {lg g gr : Nat} {L L' : List (List Value)} {x k : List Value} {S : Nat → Prop}
/-- One more on top, if there is a list. -/
def pushL (live : Bool) (L : List (List Value)) (x : List Value) : List (List Value) := if live then L ++ [x] else L
theorem dpush (h : PAt w live lg g gr L) (hx : Ele x) (hL : L.length ≤ 1048576) : Calls Try.prog 73 #[.pointer (lvP live g), .agg x.toArray] w fun e w' => e = .returned (.tuple #[]) ∧ ∃ gr', PAt w' live lg g gr' (pushL live L x) ∧ nextG w gr gr' ∧ Mod (pset live g gr) w w' := by
  cases live with
  | true =>
    refine (push_x (h.d rfl) hx hL).mono ?_
    rintro e w' ⟨rfl, gr', hd, hn, m⟩
    have m' := m.mono (S' := pset true g gr) (fun _ _ c => pset_live c)
    exact ⟨rfl, gr', h.step m' (fun _ => hd) (fun e => absurd e (by decide)), hn, m'⟩
  | false =>
    refine push_nil.mono ?_
    rintro e w' ⟨rfl, m⟩
    exact ⟨rfl, gr, h.mod_no m, .inl rfl, m.mono (fun _ _ c => c.elim)⟩
theorem op_set {a : Act} {o : Oper} {w : World} {K : Act → World → Prop} {Q : Exit → Act → World → Prop} {x0 x1 x2 : Operand} {t0 t1 t2 : TypeId} {v0 v1 v2 : Value} {R : Ending → World → Prop} (ho : o.op = .call { callee := .value (.func 78), args := #[x0, x1, x2], argTypes := #[t0, t1, t2] }) (h0 : a.eval x0 = v0) (h1 : a.eval x1 = v1) (h2 : a.eval x2 = v2)
    (hC : Calls Try.prog 78 #[v0, v1, v2] w R) (hR : ∀ e w', R e w' → ∃ u, e = .returned u ∧ K (a.put o.dst u) w') : Oper.wp Try.prog o a w K Q := by
  have h : (execOp a.eval o).run Try.prog w = .ok (.enter 78 #[v0, v1, v2]) w := by
    have hf : a.eval (.func 78) = .func (.func 78) #[] #[] := rfl
    generalize a.eval = ev at h0 h1 h2 hf
    unfold execOp
    simp only [ho]
    go_simp
  unfold Oper.wp
  rw [h, Oper.upon_enter]
  refine hC.mono fun e w' hr => ?_
  obtain ⟨u, rfl, hk⟩ := hR e w' hr
  exact hk
set_option maxRecDepth 100000 in
set_option maxHeartbeats 4000000 in
theorem push_l (h : PAt w live lg g gr L) (hk : Key k) (hL : L.length ≤ 1048576) : Calls Try.prog 36 #[.pointer (lvP live lg), .agg k.toArray] w fun e w' => e = .returned (.tuple #[]) ∧ ∃ gr', PAt w' live lg g gr' (pushL live L (entry k)) ∧ nextG w gr gr' ∧ Mod (pset live g gr) w w' := by
  have m1 : Mod no w (w.alloc (.cells k.toArray 39)) := (Mod.refl no w).alloc _
  have h1 := h.mod_no m1
  obtain ⟨lv, hlv⟩ : ∃ lv, lv = lvP live lg := ⟨_, rfl⟩
  obtain ⟨dp, hdp⟩ : ∃ dp, dp = lvP live g := ⟨_, rfl⟩
  have HR1 : ∀ w', Mod no (w.alloc (.cells k.toArray 39)) w' → Calls Try.prog 48 #[.pointer lv] w' fun e w2 => e = .returned (.pointer dp) ∧ w' = w2 := fun w' m => by rw [hlv, hdp]; exact row_l (h1.mod_no m)
  have HP1 : ∀ w', Mod no (w.alloc (.cells k.toArray 39)) w' → Calls Try.prog 73 #[.pointer dp, .agg (entry k).toArray] w' fun e w2 => e = .returned (.tuple #[]) ∧ ∃ gr', PAt w2 live lg g gr' (pushL live L (entry k)) ∧ nextG w' gr gr' ∧ Mod (pset live g gr) w' w2 := fun w' m => by rw [hdp]; exact dpush (h1.mod_no m) hk.ele hL
  rw [← hlv]
  have H0 := Lib.hid (And.intro HR1 (And.intro HP1 m1))
  have HB := Lib.hid (show Blk (w.alloc (.cells k.toArray 39)) w.heap.size 39 k.toArray from Blk.new w 39 k.toArray)
  have HX := Lib.hid (And.intro hk (fun b => h1.new (b := b)))
  have HN := Lib.hid (h.new (Nat.le_refl _))
  clear m1 h1 HR1 HP1 hlv hdp h hL hk
  go_enter Try.func36, Try.ntmps36
  go_wp2_with fail
  generalize w.alloc (.cells k.toArray 39) = w1 at *
  have m1 : Mod no w1 w1.drew := (Mod.refl no w1).drew
  refine wp_region_held_drew (S := fun w' => Blk w' w.heap.size 39 k.toArray) (by kernel_rfl) HB.out.drew (fun hHeld => ?_)
  refine takeD (i := 0) (d := some 4) (v := (.pointer lv)) rfl (by kernel_rfl) (by kernel_rfl) (by kernel_rfl) rfl (fun _ _ _ h => h) (Or.inl ⟨by kernel_rfl, fun w9 hw => y_move rfl rfl⟩) hHeld ?_
  simp only [Act.put, List.setIfInBounds_toArray, List.set_cons_zero, List.set_cons_succ]
  refine takeD (i := 2) (d := some 6) (v := (.agg k.toArray)) rfl (by kernel_rfl) (by kernel_rfl) (by kernel_rfl) rfl (fun _ _ _ h => h) (Or.inl ⟨by kernel_rfl, fun w9 hw => y_keyG rfl rfl (fun j v hv => by rw [hw.cell, Nat.zero_add, List.getElem?_toArray]; exact hv) HX.out.1⟩) hHeld ?_
  simp only [Act.put, List.setIfInBounds_toArray, List.set_cons_zero, List.set_cons_succ]
  refine takeD (i := 3) (d := some 7) (v := (.agg (entry k).toArray)) rfl (by kernel_rfl) (by kernel_rfl) (by kernel_rfl) rfl (fun _ _ _ h => h) (Or.inl ⟨by kernel_rfl, fun w9 hw => y_buildG rfl rfl HX.out.1⟩) hHeld ?_
  simp only [Act.put, List.setIfInBounds_toArray, List.set_cons_zero, List.set_cons_succ]
  refine readyD (i := 1) (d := some 5) rfl (by kernel_rfl) rfl (by kernel_rfl) fun K hK => ?_
  refine op_row rfl rfl (H0.out.1 _ m1) ?_
  rintro e w3 ⟨rfl, rfl⟩
  refine ⟨_, rfl, hK _ _ hHeld fun _ => ?_⟩
  clear hK K
  simp only [Act.put, List.setIfInBounds_toArray, List.set_cons_zero, List.set_cons_succ]
  refine readyD (i := 4) (d := some 8) rfl (by kernel_rfl) rfl (by kernel_rfl) fun K hK => ?_
  refine op_push rfl rfl rfl (H0.out.2.1 _ m1) ?_
  rintro e w4 ⟨rfl, gr', h4, n4, m4⟩
  have hs1 := H0.out.2.2.size
  have hs2 := m1.size
  have n4' : nextG w gr gr' := by
    rcases n4 with n | n
    · exact .inl n
    · exact .inr (by omega)
  have HF := Lib.hid (And.intro h4 (And.intro n4' ((H0.out.2.2.mono (S' := pset live g gr) (fun _ _ c => c.elim)).and_then ((m1.mono (S' := pset live g gr) (fun _ _ c => c.elim)).and_then m4))))
  refine ⟨_, rfl, hK _ _ (hHeld.mod m4 HN.out) fun _ => ?_⟩
  clear hK K hHeld h4 m4 n4 n4'
  simp only [Act.put, List.setIfInBounds_toArray, List.set_cons_zero, List.set_cons_succ]
  refine wpAnyH_done (by kernel_rfl) ?_ _
  go_wp2_with fail
  go_end0
  exact ⟨rfl, gr', HF.out.1, HF.out.2.1, HF.out.2.2⟩

/-- A kid more was touched at an end. -/
def BumpR (bottom : Bool) (L L' : List (List Value)) (x : List Value) (ok : Bool) : Prop := (L = [] ∧ L' = [] ∧ x = zl ∧ ok = false) ∨ ∃ k n, Key k ∧ L[endN bottom L.length]? = some (ent k n) ∧ -9223372036854775808 ≤ n ∧ n ≤ 9223372036854775807 ∧ x = ent k (bumpI n) ∧ L' = L.set (endN bottom L.length) (ent k (bumpI n)) ∧ ok = true
set_option maxRecDepth 100000 in
set_option maxHeartbeats 4000000 in
theorem bump_none (h : PAt w live lg g gr []) : Calls Try.prog 42 #[.pointer (lvP live lg), .bool bottom] w fun e w' => e = .returned (.tuple #[.agg zl.toArray, .bool false]) ∧ Mod no w w' := by
  have m1 : Mod no w (w.alloc (.cells #[.int .u8 0, .int .u8 0, .int .u8 0, .int .u8 0, .int .u8 0, .int .u8 0, .int .u8 0, .int .u8 0, .int .u8 0, .int .u8 0, .int .u8 0, .int .u8 0, .int .u8 0, .int .u8 0, .int .u8 0, .int .u8 0, .int .u8 0, .int .u8 0, .int .u8 0, .int .u8 0, .int .u8 0, .int .u8 0, .int .u8 0, .int .u8 0, .int .u8 0, .int .u8 0, .int .u8 0, .int .u8 0, .int .u8 0, .int .u8 0, .int .u8 0, .int .u8 0, .int .i64 0] 89)) := (Mod.refl no w).alloc _
  have h1 := h.mod_no m1
  obtain ⟨lv, hlv⟩ : ∃ lv, lv = lvP live lg := ⟨_, rfl⟩
  obtain ⟨dp, hdp⟩ : ∃ dp, dp = lvP live g := ⟨_, rfl⟩
  obtain ⟨ev, hev⟩ : ∃ ev, ev = lendV bottom ([] : List (List Value)).length := ⟨_, rfl⟩
  have HR1 := row_l h1
  have HE1 := end_l (bottom := bottom) h1
  have HA1 := at_u (bottom := bottom) (ok := false) h1.q (.inl ⟨rfl, rfl, rfl⟩)
  rw [← hlv, ← hdp] at HR1
  rw [← hlv, ← hev] at HE1
  rw [← hdp, ← hev] at HA1
  rw [← hlv]
  have H0 := Lib.hid (And.intro HR1 (And.intro HE1 (And.intro HA1 (And.intro (show Blk (w.alloc (.cells #[.int .u8 0, .int .u8 0, .int .u8 0, .int .u8 0, .int .u8 0, .int .u8 0, .int .u8 0, .int .u8 0, .int .u8 0, .int .u8 0, .int .u8 0, .int .u8 0, .int .u8 0, .int .u8 0, .int .u8 0, .int .u8 0, .int .u8 0, .int .u8 0, .int .u8 0, .int .u8 0, .int .u8 0, .int .u8 0, .int .u8 0, .int .u8 0, .int .u8 0, .int .u8 0, .int .u8 0, .int .u8 0, .int .u8 0, .int .u8 0, .int .u8 0, .int .u8 0, .int .i64 0] 89)) w.heap.size 89 zl.toArray from Blk.new w 89 #[.int .u8 0, .int .u8 0, .int .u8 0, .int .u8 0, .int .u8 0, .int .u8 0, .int .u8 0, .int .u8 0, .int .u8 0, .int .u8 0, .int .u8 0, .int .u8 0, .int .u8 0, .int .u8 0, .int .u8 0, .int .u8 0, .int .u8 0, .int .u8 0, .int .u8 0, .int .u8 0, .int .u8 0, .int .u8 0, .int .u8 0, .int .u8 0, .int .u8 0, .int .u8 0, .int .u8 0, .int .u8 0, .int .u8 0, .int .u8 0, .int .u8 0, .int .u8 0, .int .i64 0]) m1))))
  clear m1 h1 HR1 HE1 HA1 h hlv hdp hev
  go_enter Try.func42, Try.ntmps42
  go_wp2_with fail
  generalize w.alloc (.cells #[.int .u8 0, .int .u8 0, .int .u8 0, .int .u8 0, .int .u8 0, .int .u8 0, .int .u8 0, .int .u8 0, .int .u8 0, .int .u8 0, .int .u8 0, .int .u8 0, .int .u8 0, .int .u8 0, .int .u8 0, .int .u8 0, .int .u8 0, .int .u8 0, .int .u8 0, .int .u8 0, .int .u8 0, .int .u8 0, .int .u8 0, .int .u8 0, .int .u8 0, .int .u8 0, .int .u8 0, .int .u8 0, .int .u8 0, .int .u8 0, .int .u8 0, .int .u8 0, .int .i64 0] 89) = w1 at *
  refine H0.out.2.1.mono ?_
  rintro e w2 ⟨rfl, rfl⟩
  go_wp2_with fail
  refine H0.out.1.mono ?_
  rintro e w2 ⟨rfl, rfl⟩
  go_wp2_with fail
  refine H0.out.2.2.1.mono ?_
  rintro e w2 ⟨rfl, m2⟩
  have H2 := Lib.hid (And.intro (H0.out.2.2.2.1.mod m2 (fun c => c)) (H0.out.2.2.2.2.and_then m2))
  have hs2 := (H0.out.2.2.2.1.mod m2 (fun c => c)).lt
  clear m2
  go_wp2_with (first
    | (refine wpList_store_mid rfl 89 (.tmp 7) (.tmp 17) rfl w2.heap.size 0 zl.toArray rfl rfl (var_there (Blk.new w2 89 zl.toArray) rfl) (ele_info zl_ele) (ele_one zl_ele) ?_
       simp only [List.toList_toArray]
       obtain ⟨b6, m6⟩ := var_set (show Blk (w2.alloc (.cells #[.int .u8 0, .int .u8 0, .int .u8 0, .int .u8 0, .int .u8 0, .int .u8 0, .int .u8 0, .int .u8 0, .int .u8 0, .int .u8 0, .int .u8 0, .int .u8 0, .int .u8 0, .int .u8 0, .int .u8 0, .int .u8 0, .int .u8 0, .int .u8 0, .int .u8 0, .int .u8 0, .int .u8 0, .int .u8 0, .int .u8 0, .int .u8 0, .int .u8 0, .int .u8 0, .int .u8 0, .int .u8 0, .int .u8 0, .int .u8 0, .int .u8 0, .int .u8 0, .int .i64 0] 89)) w2.heap.size 89 zl.toArray from Blk.new w2 89 #[.int .u8 0, .int .u8 0, .int .u8 0, .int .u8 0, .int .u8 0, .int .u8 0, .int .u8 0, .int .u8 0, .int .u8 0, .int .u8 0, .int .u8 0, .int .u8 0, .int .u8 0, .int .u8 0, .int .u8 0, .int .u8 0, .int .u8 0, .int .u8 0, .int .u8 0, .int .u8 0, .int .u8 0, .int .u8 0, .int .u8 0, .int .u8 0, .int .u8 0, .int .u8 0, .int .u8 0, .int .u8 0, .int .u8 0, .int .u8 0, .int .u8 0, .int .u8 0, .int .i64 0]) rfl zl_ele
       have m6' : Mod no w2 ((w2.alloc (.cells #[.int .u8 0, .int .u8 0, .int .u8 0, .int .u8 0, .int .u8 0, .int .u8 0, .int .u8 0, .int .u8 0, .int .u8 0, .int .u8 0, .int .u8 0, .int .u8 0, .int .u8 0, .int .u8 0, .int .u8 0, .int .u8 0, .int .u8 0, .int .u8 0, .int .u8 0, .int .u8 0, .int .u8 0, .int .u8 0, .int .u8 0, .int .u8 0, .int .u8 0, .int .u8 0, .int .u8 0, .int .u8 0, .int .u8 0, .int .u8 0, .int .u8 0, .int .u8 0, .int .i64 0] 89)).setCells w2.heap.size 0 zl) := mod_new ((Mod.refl no w2).alloc _) m6 (Nat.le_refl _)
       have H3 := Lib.hid (And.intro (H2.out.1.mod m6' (fun c => c)) (And.intro (H2.out.2.and_then m6') b6))
       clear b6 m6 m6'
       generalize (w2.alloc (.cells #[.int .u8 0, .int .u8 0, .int .u8 0, .int .u8 0, .int .u8 0, .int .u8 0, .int .u8 0, .int .u8 0, .int .u8 0, .int .u8 0, .int .u8 0, .int .u8 0, .int .u8 0, .int .u8 0, .int .u8 0, .int .u8 0, .int .u8 0, .int .u8 0, .int .u8 0, .int .u8 0, .int .u8 0, .int .u8 0, .int .u8 0, .int .u8 0, .int .u8 0, .int .u8 0, .int .u8 0, .int .u8 0, .int .u8 0, .int .u8 0, .int .u8 0, .int .u8 0, .int .i64 0] 89)).setCells w2.heap.size 0 zl = w3 at *)
    | (refine wpList_load_mid rfl 89 (.tmp 7) rfl w2.heap.size 0 rfl zl _ (var_range H3.out.2.2) Try.underlying89 rfl (grey_info zl_ele.1) ?_)
    | (refine wpList_store_mid rfl 89 (.tmp 4) (.tmp 34) rfl w.heap.size 0 zl.toArray rfl rfl (var_there H3.out.1 rfl) (ele_info zl_ele) (ele_one zl_ele) ?_
       simp only [List.toList_toArray]
       have H5 := Lib.hid (And.intro (var_set H3.out.1 rfl zl_ele).1 (mod_new H3.out.2.1 (var_set H3.out.1 rfl zl_ele).2 (Nat.le_refl _)))
       generalize w3.setCells w.heap.size 0 zl = w5 at *))
  exact grey_done zl_ele.1 (var_range H5.out.1) _ rfl rfl rfl _ Try.results42 _ ⟨rfl, H5.out.2⟩

set_option maxRecDepth 100000 in
set_option maxHeartbeats 4000000 in
theorem bump_more {n : Int} (h : PAt w true lg g gr L) (hk : Key k) (hx : L[endN bottom L.length]? = some (ent k n)) (hn0 : -9223372036854775808 ≤ n) (hn : n < 9223372036854775807) :
    Calls Try.prog 42 #[.pointer (some ⟨lg, 0, none⟩), .bool bottom] w fun e w' => e = .returned (.tuple #[.agg (ent k (n + 1)).toArray, .bool true]) ∧ PAt w' true lg g gr (L.set (endN bottom L.length) (ent k (n + 1))) ∧ Mod (pset true g gr) w w' := by
  have m1 : Mod no w (w.alloc (.cells #[.int .u8 0, .int .u8 0, .int .u8 0, .int .u8 0, .int .u8 0, .int .u8 0, .int .u8 0, .int .u8 0, .int .u8 0, .int .u8 0, .int .u8 0, .int .u8 0, .int .u8 0, .int .u8 0, .int .u8 0, .int .u8 0, .int .u8 0, .int .u8 0, .int .u8 0, .int .u8 0, .int .u8 0, .int .u8 0, .int .u8 0, .int .u8 0, .int .u8 0, .int .u8 0, .int .u8 0, .int .u8 0, .int .u8 0, .int .u8 0, .int .u8 0, .int .u8 0, .int .i64 0] 89)) := (Mod.refl no w).alloc _
  have h1 := h.mod_no m1
  have hlt := (List.getElem?_eq_some_iff.1 hx).1
  have he : Ele (ent k n) := hk.ent n
  have hev : lendV bottom L.length = ((endN bottom L.length : Nat) : Int) := by
    unfold lendV endN at *
    split <;> simp_all <;> omega
  obtain ⟨i, hi⟩ : ∃ i, i = endN bottom L.length := ⟨_, rfl⟩
  rw [← hi] at hev
  have HE1 := end_l (bottom := bottom) h1
  have HA1 := at_u (bottom := bottom) (ok := true) h1.q (.inr ⟨hx, rfl⟩)
  rw [hev] at HE1 HA1
  rw [← hi] at hx hlt ⊢
  have H0 := Lib.hid (And.intro (show ∀ w', Mod no (w.alloc (.cells #[.int .u8 0, .int .u8 0, .int .u8 0, .int .u8 0, .int .u8 0, .int .u8 0, .int .u8 0, .int .u8 0, .int .u8 0, .int .u8 0, .int .u8 0, .int .u8 0, .int .u8 0, .int .u8 0, .int .u8 0, .int .u8 0, .int .u8 0, .int .u8 0, .int .u8 0, .int .u8 0, .int .u8 0, .int .u8 0, .int .u8 0, .int .u8 0, .int .u8 0, .int .u8 0, .int .u8 0, .int .u8 0, .int .u8 0, .int .u8 0, .int .u8 0, .int .u8 0, .int .i64 0] 89)) w' → Calls Try.prog 48 #[.pointer (some ⟨lg, 0, none⟩)] w' fun e w2 => e = .returned (.pointer (some ⟨g, 0, none⟩)) ∧ w' = w2 from fun w' m => row_l (h1.mod_no m)) (And.intro HE1 (And.intro (show Calls Try.prog 74 #[.pointer (some ⟨g, 0, none⟩), .int .i64 (i : Int)] (w.alloc (.cells #[.int .u8 0, .int .u8 0, .int .u8 0, .int .u8 0, .int .u8 0, .int .u8 0, .int .u8 0, .int .u8 0, .int .u8 0, .int .u8 0, .int .u8 0, .int .u8 0, .int .u8 0, .int .u8 0, .int .u8 0, .int .u8 0, .int .u8 0, .int .u8 0, .int .u8 0, .int .u8 0, .int .u8 0, .int .u8 0, .int .u8 0, .int .u8 0, .int .u8 0, .int .u8 0, .int .u8 0, .int .u8 0, .int .u8 0, .int .u8 0, .int .u8 0, .int .u8 0, .int .i64 0] 89)) fun e w' => e = .returned (.tuple #[.agg (ent k n).toArray, .bool true]) ∧ Mod no (w.alloc (.cells #[.int .u8 0, .int .u8 0, .int .u8 0, .int .u8 0, .int .u8 0, .int .u8 0, .int .u8 0, .int .u8 0, .int .u8 0, .int .u8 0, .int .u8 0, .int .u8 0, .int .u8 0, .int .u8 0, .int .u8 0, .int .u8 0, .int .u8 0, .int .u8 0, .int .u8 0, .int .u8 0, .int .u8 0, .int .u8 0, .int .u8 0, .int .u8 0, .int .u8 0, .int .u8 0, .int .u8 0, .int .u8 0, .int .u8 0, .int .u8 0, .int .u8 0, .int .u8 0, .int .i64 0] 89)) w' from HA1) (And.intro (show Blk (w.alloc (.cells #[.int .u8 0, .int .u8 0, .int .u8 0, .int .u8 0, .int .u8 0, .int .u8 0, .int .u8 0, .int .u8 0, .int .u8 0, .int .u8 0, .int .u8 0, .int .u8 0, .int .u8 0, .int .u8 0, .int .u8 0, .int .u8 0, .int .u8 0, .int .u8 0, .int .u8 0, .int .u8 0, .int .u8 0, .int .u8 0, .int .u8 0, .int .u8 0, .int .u8 0, .int .u8 0, .int .u8 0, .int .u8 0, .int .u8 0, .int .u8 0, .int .u8 0, .int .u8 0, .int .i64 0] 89)) w.heap.size 89 zl.toArray from Blk.new w 89 #[.int .u8 0, .int .u8 0, .int .u8 0, .int .u8 0, .int .u8 0, .int .u8 0, .int .u8 0, .int .u8 0, .int .u8 0, .int .u8 0, .int .u8 0, .int .u8 0, .int .u8 0, .int .u8 0, .int .u8 0, .int .u8 0, .int .u8 0, .int .u8 0, .int .u8 0, .int .u8 0, .int .u8 0, .int .u8 0, .int .u8 0, .int .u8 0, .int .u8 0, .int .u8 0, .int .u8 0, .int .u8 0, .int .u8 0, .int .u8 0, .int .u8 0, .int .u8 0, .int .i64 0]) m1))))
  have HX := Lib.hid (And.intro hk (And.intro he (And.intro hx hlt)))
  have HH := Lib.hid h1
  have HNW := Lib.hid (fun b => h.new (b := b))
  have hw64 : wrap64 (n + 1) = n + 1 := IntWalk.wrap64_in _ (by omega)
  clear m1 h1 HE1 HA1 h hi hev hlt hx he hk
  go_enter Try.func42, Try.ntmps42
  go_wp2_with fail
  generalize w.alloc (.cells #[.int .u8 0, .int .u8 0, .int .u8 0, .int .u8 0, .int .u8 0, .int .u8 0, .int .u8 0, .int .u8 0, .int .u8 0, .int .u8 0, .int .u8 0, .int .u8 0, .int .u8 0, .int .u8 0, .int .u8 0, .int .u8 0, .int .u8 0, .int .u8 0, .int .u8 0, .int .u8 0, .int .u8 0, .int .u8 0, .int .u8 0, .int .u8 0, .int .u8 0, .int .u8 0, .int .u8 0, .int .u8 0, .int .u8 0, .int .u8 0, .int .u8 0, .int .u8 0, .int .i64 0] 89) = w1 at *
  refine H0.out.2.1.mono ?_
  rintro e w2 ⟨rfl, rfl⟩
  go_wp2_with fail
  refine (H0.out.1 _ (Mod.refl no _)).mono ?_
  rintro e w2 ⟨rfl, rfl⟩
  go_wp2_with fail
  refine H0.out.2.2.1.mono ?_
  rintro e w2 ⟨rfl, m2⟩
  have H2 := Lib.hid (And.intro (H0.out.2.2.2.1.mod m2 (fun c => c)) m2)
  have hs2 := (H0.out.2.2.2.1.mod m2 (fun c => c)).lt
  have hs1 := H0.out.2.2.2.2.size
  clear m2
  go_wp2_with (first
    | (refine wpList_store_mid rfl 89 (.tmp 7) (.tmp 17) rfl w2.heap.size 0 (ent k n).toArray rfl rfl (by rw [ele_size HX.out.2.1]; exact var_there (Blk.new w2 89 zl.toArray) rfl) (ele_info HX.out.2.1) (ele_one HX.out.2.1) ?_
       simp only [List.toList_toArray]
       obtain ⟨b6, m6⟩ := var_set (show Blk (w2.alloc (.cells #[.int .u8 0, .int .u8 0, .int .u8 0, .int .u8 0, .int .u8 0, .int .u8 0, .int .u8 0, .int .u8 0, .int .u8 0, .int .u8 0, .int .u8 0, .int .u8 0, .int .u8 0, .int .u8 0, .int .u8 0, .int .u8 0, .int .u8 0, .int .u8 0, .int .u8 0, .int .u8 0, .int .u8 0, .int .u8 0, .int .u8 0, .int .u8 0, .int .u8 0, .int .u8 0, .int .u8 0, .int .u8 0, .int .u8 0, .int .u8 0, .int .u8 0, .int .u8 0, .int .i64 0] 89)) w2.heap.size 89 zl.toArray from Blk.new w2 89 #[.int .u8 0, .int .u8 0, .int .u8 0, .int .u8 0, .int .u8 0, .int .u8 0, .int .u8 0, .int .u8 0, .int .u8 0, .int .u8 0, .int .u8 0, .int .u8 0, .int .u8 0, .int .u8 0, .int .u8 0, .int .u8 0, .int .u8 0, .int .u8 0, .int .u8 0, .int .u8 0, .int .u8 0, .int .u8 0, .int .u8 0, .int .u8 0, .int .u8 0, .int .u8 0, .int .u8 0, .int .u8 0, .int .u8 0, .int .u8 0, .int .u8 0, .int .u8 0, .int .i64 0]) rfl HX.out.2.1
       have m6' : Mod no w2 ((w2.alloc (.cells #[.int .u8 0, .int .u8 0, .int .u8 0, .int .u8 0, .int .u8 0, .int .u8 0, .int .u8 0, .int .u8 0, .int .u8 0, .int .u8 0, .int .u8 0, .int .u8 0, .int .u8 0, .int .u8 0, .int .u8 0, .int .u8 0, .int .u8 0, .int .u8 0, .int .u8 0, .int .u8 0, .int .u8 0, .int .u8 0, .int .u8 0, .int .u8 0, .int .u8 0, .int .u8 0, .int .u8 0, .int .u8 0, .int .u8 0, .int .u8 0, .int .u8 0, .int .u8 0, .int .i64 0] 89)).setCells w2.heap.size 0 (ent k n)) := mod_new ((Mod.refl no w2).alloc _) m6 (Nat.le_refl _)
       have H3 := Lib.hid (And.intro (H2.out.1.mod m6' (fun c => c)) (And.intro (H2.out.2.and_then m6') b6))
       have hs3 : w2.heap.size < ((w2.alloc (.cells #[.int .u8 0, .int .u8 0, .int .u8 0, .int .u8 0, .int .u8 0, .int .u8 0, .int .u8 0, .int .u8 0, .int .u8 0, .int .u8 0, .int .u8 0, .int .u8 0, .int .u8 0, .int .u8 0, .int .u8 0, .int .u8 0, .int .u8 0, .int .u8 0, .int .u8 0, .int .u8 0, .int .u8 0, .int .u8 0, .int .u8 0, .int .u8 0, .int .u8 0, .int .u8 0, .int .u8 0, .int .u8 0, .int .u8 0, .int .u8 0, .int .u8 0, .int .u8 0, .int .i64 0] 89)).setCells w2.heap.size 0 (ent k n)).heap.size := b6.lt
       have hcn : ((w2.alloc (.cells #[.int .u8 0, .int .u8 0, .int .u8 0, .int .u8 0, .int .u8 0, .int .u8 0, .int .u8 0, .int .u8 0, .int .u8 0, .int .u8 0, .int .u8 0, .int .u8 0, .int .u8 0, .int .u8 0, .int .u8 0, .int .u8 0, .int .u8 0, .int .u8 0, .int .u8 0, .int .u8 0, .int .u8 0, .int .u8 0, .int .u8 0, .int .u8 0, .int .u8 0, .int .u8 0, .int .u8 0, .int .u8 0, .int .u8 0, .int .u8 0, .int .u8 0, .int .u8 0, .int .i64 0] 89)).setCells w2.heap.size 0 (ent k n)).cell? ⟨w2.heap.size, 32, none⟩ = some (.int .i64 n) := by rw [b6.cell, List.getElem?_toArray]; exact ent_next HX.out.1.1 n
       have hfn := b6.free 32
       clear b6 m6 m6'
       generalize (w2.alloc (.cells #[.int .u8 0, .int .u8 0, .int .u8 0, .int .u8 0, .int .u8 0, .int .u8 0, .int .u8 0, .int .u8 0, .int .u8 0, .int .u8 0, .int .u8 0, .int .u8 0, .int .u8 0, .int .u8 0, .int .u8 0, .int .u8 0, .int .u8 0, .int .u8 0, .int .u8 0, .int .u8 0, .int .u8 0, .int .u8 0, .int .u8 0, .int .u8 0, .int .u8 0, .int .u8 0, .int .u8 0, .int .u8 0, .int .u8 0, .int .u8 0, .int .u8 0, .int .u8 0, .int .i64 0] 89)).setCells w2.heap.size 0 (ent k n) = w3 at *))
  have hb4 := H3.out.2.2.put 32 (.int .i64 (n + 1))
  rw [List.setIfInBounds_toArray, ent_set HX.out.1.1] at hb4
  have hs12 := H2.out.2.size
  have m4 : Mod no w1 (w3.setCell ⟨w2.heap.size, 32, none⟩ (.int .i64 (n + 1))) := H3.out.2.1.set (p := ⟨w2.heap.size, 32, none⟩) (fun h => absurd h (by show ¬ w2.heap.size < w1.heap.size; omega)) _
  have hv4 := H3.out.1.far (p := ⟨w2.heap.size, 32, none⟩) (show w.heap.size ≠ w2.heap.size by omega) (.int .i64 (n + 1))
  have H4 := Lib.hid (And.intro hb4 (And.intro hv4 m4))
  clear hb4 hv4 m4
  generalize w3.setCell ⟨w2.heap.size, 32, none⟩ (.int .i64 (n + 1)) = w4 at *
  have m5 : Mod no w1 w4.drew := H4.out.2.2.drew
  have hv5 := H4.out.2.1.drew
  refine wp_region_held_drew (S := fun w' => Blk w' w2.heap.size 89 (ent k (n + 1)).toArray) (by kernel_rfl) H4.out.1.drew (fun hHeld => ?_)
  refine takeD (i := 0) (d := some 29) (v := (.pointer (some ⟨lg, 0, none⟩))) rfl (by kernel_rfl) (by kernel_rfl) (by kernel_rfl) rfl (fun _ _ _ h => h) (Or.inl ⟨by kernel_rfl, fun w9 hw => y_move rfl rfl⟩) hHeld ?_
  simp only [Act.put, List.setIfInBounds_toArray, List.set_cons_zero, List.set_cons_succ]
  refine takeD (i := 2) (d := some 31) (v := (.int .i64 (i : Int))) rfl (by kernel_rfl) (by kernel_rfl) (by kernel_rfl) rfl (fun _ _ _ h => h) (Or.inl ⟨by kernel_rfl, fun w9 hw => y_move rfl rfl⟩) hHeld ?_
  simp only [Act.put, List.setIfInBounds_toArray, List.set_cons_zero, List.set_cons_succ]
  refine takeD (i := 3) (d := some 32) (v := (.agg (ent k (n + 1)).toArray)) rfl (by kernel_rfl) (by kernel_rfl) (by kernel_rfl) rfl (fun _ _ _ h => h) (Or.inl ⟨by kernel_rfl, fun w9 hw => y_mid rfl rfl (var_range hw) (HX.out.1.ent _).1⟩) hHeld ?_
  simp only [Act.put, List.setIfInBounds_toArray, List.set_cons_zero, List.set_cons_succ]
  refine readyD (i := 1) (d := some 30) rfl (by kernel_rfl) rfl (by kernel_rfl) fun K hK => ?_
  refine op_row rfl rfl (H0.out.1 _ m5) ?_
  rintro e w6 ⟨rfl, rfl⟩
  refine ⟨_, rfl, hK _ _ hHeld fun _ => ?_⟩
  clear hK K
  simp only [Act.put, List.setIfInBounds_toArray, List.set_cons_zero, List.set_cons_succ]
  refine readyD (i := 4) (d := some 33) rfl (by kernel_rfl) rfl (by kernel_rfl) fun K hK => ?_
  have hd5 := (HH.out.mod_no m5).d rfl
  refine op_set rfl rfl rfl rfl (set_any hd5 (HX.out.1.ent _) HX.out.2.2.2) ?_
  rintro e w6 ⟨rfl, h6, m6⟩
  have m6' := m6.mono (S' := pset true g gr) (fun _ _ c => pset_live c)
  have hp6 := (HH.out.mod_no m5).step (L' := L.set i (ent k (n + 1))) m6' (fun _ => h6) (fun e => absurd e (by decide))
  have hn2 := HNW.out w2.heap.size (by omega)
  have hn1 := HNW.out w.heap.size (Nat.le_refl _)
  have H6 := Lib.hid (And.intro (hHeld.mod m6' hn2) (And.intro (hv5.mod m6' hn1) (And.intro hp6 (((H0.out.2.2.2.2.and_then m5).mono (S' := pset true g gr) (fun _ _ c => c.elim)).and_then m6'))))
  refine ⟨_, rfl, hK _ _ (hHeld.mod m6' hn2) fun _ => ?_⟩
  clear hK K hHeld h6 m6 m6' hp6 hv5 m5 hd5
  simp only [Act.put, List.setIfInBounds_toArray, List.set_cons_zero, List.set_cons_succ]
  refine wpAnyH_done (by kernel_rfl) ?_ _
  go_wp2_with (first
    | (refine wpList_load_mid rfl 89 (.tmp 7) rfl w2.heap.size 0 rfl (ent k (n + 1)) _ (var_range H6.out.1) Try.underlying89 rfl (grey_info (HX.out.1.ent _).1) ?_)
    | (refine wpList_store_mid rfl 89 (.tmp 4) (.tmp 34) rfl w.heap.size 0 (ent k (n + 1)).toArray rfl rfl (by rw [ele_size (HX.out.1.ent _)]; exact var_there H6.out.2.1 rfl) (ele_info (HX.out.1.ent _)) (ele_one (HX.out.1.ent _)) ?_
       simp only [List.toList_toArray]
       have mv := (var_set H6.out.2.1 rfl (HX.out.1.ent (n + 1))).2
       have hb2 := H6.out.2.1
       have H7 := Lib.hid (And.intro (var_set H6.out.2.1 rfl (HX.out.1.ent (n + 1))).1 (And.intro (H6.out.2.2.1.mod mv (fun e => ⟨fun c => by have c : lg = w.heap.size := c; rw [← c] at hb2; exact absurd (hb2.same (H6.out.2.2.1.l e)).1 (by decide), fun c => by have c : g = w.heap.size := c; exact HNW.out _ (Nat.le_refl _) ⟨e, .inl c.symm⟩, fun c => by have c : gr = w.heap.size := c; exact HNW.out _ (Nat.le_refl _) ⟨e, .inr c.symm⟩⟩)) (mod_new H6.out.2.2.2 mv (Nat.le_refl _))))
       clear mv hb2
       generalize w6.setCells w.heap.size 0 (ent k (n + 1)) = w7 at *))
  exact grey_done (HX.out.1.ent _).1 (var_range H7.out.1) _ rfl rfl rfl _ Try.results42 _ ⟨rfl, H7.out.2.1, H7.out.2.2⟩

set_option maxRecDepth 100000 in
set_option maxHeartbeats 4000000 in
theorem bump_full {n : Int} (h : PAt w true lg g gr L) (hk : Key k) (hx : L[endN bottom L.length]? = some (ent k n)) (hn0 : -9223372036854775808 ≤ n) (hn : ¬ n < 9223372036854775807) :
    Calls Try.prog 42 #[.pointer (some ⟨lg, 0, none⟩), .bool bottom] w fun e w' => e = .returned (.tuple #[.agg (ent k n).toArray, .bool true]) ∧ PAt w' true lg g gr (L.set (endN bottom L.length) (ent k n)) ∧ Mod (pset true g gr) w w' := by
  have m1 : Mod no w (w.alloc (.cells #[.int .u8 0, .int .u8 0, .int .u8 0, .int .u8 0, .int .u8 0, .int .u8 0, .int .u8 0, .int .u8 0, .int .u8 0, .int .u8 0, .int .u8 0, .int .u8 0, .int .u8 0, .int .u8 0, .int .u8 0, .int .u8 0, .int .u8 0, .int .u8 0, .int .u8 0, .int .u8 0, .int .u8 0, .int .u8 0, .int .u8 0, .int .u8 0, .int .u8 0, .int .u8 0, .int .u8 0, .int .u8 0, .int .u8 0, .int .u8 0, .int .u8 0, .int .u8 0, .int .i64 0] 89)) := (Mod.refl no w).alloc _
  have h1 := h.mod_no m1
  have hlt := (List.getElem?_eq_some_iff.1 hx).1
  have he : Ele (ent k n) := hk.ent n
  have hev : lendV bottom L.length = ((endN bottom L.length : Nat) : Int) := by
    unfold lendV endN at *
    split <;> simp_all <;> omega
  obtain ⟨i, hi⟩ : ∃ i, i = endN bottom L.length := ⟨_, rfl⟩
  rw [← hi] at hev
  have HE1 := end_l (bottom := bottom) h1
  have HA1 := at_u (bottom := bottom) (ok := true) h1.q (.inr ⟨hx, rfl⟩)
  rw [hev] at HE1 HA1
  rw [← hi] at hx hlt ⊢
  have H0 := Lib.hid (And.intro (show ∀ w', Mod no (w.alloc (.cells #[.int .u8 0, .int .u8 0, .int .u8 0, .int .u8 0, .int .u8 0, .int .u8 0, .int .u8 0, .int .u8 0, .int .u8 0, .int .u8 0, .int .u8 0, .int .u8 0, .int .u8 0, .int .u8 0, .int .u8 0, .int .u8 0, .int .u8 0, .int .u8 0, .int .u8 0, .int .u8 0, .int .u8 0, .int .u8 0, .int .u8 0, .int .u8 0, .int .u8 0, .int .u8 0, .int .u8 0, .int .u8 0, .int .u8 0, .int .u8 0, .int .u8 0, .int .u8 0, .int .i64 0] 89)) w' → Calls Try.prog 48 #[.pointer (some ⟨lg, 0, none⟩)] w' fun e w2 => e = .returned (.pointer (some ⟨g, 0, none⟩)) ∧ w' = w2 from fun w' m => row_l (h1.mod_no m)) (And.intro HE1 (And.intro (show Calls Try.prog 74 #[.pointer (some ⟨g, 0, none⟩), .int .i64 (i : Int)] (w.alloc (.cells #[.int .u8 0, .int .u8 0, .int .u8 0, .int .u8 0, .int .u8 0, .int .u8 0, .int .u8 0, .int .u8 0, .int .u8 0, .int .u8 0, .int .u8 0, .int .u8 0, .int .u8 0, .int .u8 0, .int .u8 0, .int .u8 0, .int .u8 0, .int .u8 0, .int .u8 0, .int .u8 0, .int .u8 0, .int .u8 0, .int .u8 0, .int .u8 0, .int .u8 0, .int .u8 0, .int .u8 0, .int .u8 0, .int .u8 0, .int .u8 0, .int .u8 0, .int .u8 0, .int .i64 0] 89)) fun e w' => e = .returned (.tuple #[.agg (ent k n).toArray, .bool true]) ∧ Mod no (w.alloc (.cells #[.int .u8 0, .int .u8 0, .int .u8 0, .int .u8 0, .int .u8 0, .int .u8 0, .int .u8 0, .int .u8 0, .int .u8 0, .int .u8 0, .int .u8 0, .int .u8 0, .int .u8 0, .int .u8 0, .int .u8 0, .int .u8 0, .int .u8 0, .int .u8 0, .int .u8 0, .int .u8 0, .int .u8 0, .int .u8 0, .int .u8 0, .int .u8 0, .int .u8 0, .int .u8 0, .int .u8 0, .int .u8 0, .int .u8 0, .int .u8 0, .int .u8 0, .int .u8 0, .int .i64 0] 89)) w' from HA1) (And.intro (show Blk (w.alloc (.cells #[.int .u8 0, .int .u8 0, .int .u8 0, .int .u8 0, .int .u8 0, .int .u8 0, .int .u8 0, .int .u8 0, .int .u8 0, .int .u8 0, .int .u8 0, .int .u8 0, .int .u8 0, .int .u8 0, .int .u8 0, .int .u8 0, .int .u8 0, .int .u8 0, .int .u8 0, .int .u8 0, .int .u8 0, .int .u8 0, .int .u8 0, .int .u8 0, .int .u8 0, .int .u8 0, .int .u8 0, .int .u8 0, .int .u8 0, .int .u8 0, .int .u8 0, .int .u8 0, .int .i64 0] 89)) w.heap.size 89 zl.toArray from Blk.new w 89 #[.int .u8 0, .int .u8 0, .int .u8 0, .int .u8 0, .int .u8 0, .int .u8 0, .int .u8 0, .int .u8 0, .int .u8 0, .int .u8 0, .int .u8 0, .int .u8 0, .int .u8 0, .int .u8 0, .int .u8 0, .int .u8 0, .int .u8 0, .int .u8 0, .int .u8 0, .int .u8 0, .int .u8 0, .int .u8 0, .int .u8 0, .int .u8 0, .int .u8 0, .int .u8 0, .int .u8 0, .int .u8 0, .int .u8 0, .int .u8 0, .int .u8 0, .int .u8 0, .int .i64 0]) m1))))
  have HX := Lib.hid (And.intro hk (And.intro he (And.intro hx hlt)))
  have HH := Lib.hid h1
  have HNW := Lib.hid (fun b => h.new (b := b))
  
  clear m1 h1 HE1 HA1 h hi hev hlt hx he hk
  go_enter Try.func42, Try.ntmps42
  go_wp2_with fail
  generalize w.alloc (.cells #[.int .u8 0, .int .u8 0, .int .u8 0, .int .u8 0, .int .u8 0, .int .u8 0, .int .u8 0, .int .u8 0, .int .u8 0, .int .u8 0, .int .u8 0, .int .u8 0, .int .u8 0, .int .u8 0, .int .u8 0, .int .u8 0, .int .u8 0, .int .u8 0, .int .u8 0, .int .u8 0, .int .u8 0, .int .u8 0, .int .u8 0, .int .u8 0, .int .u8 0, .int .u8 0, .int .u8 0, .int .u8 0, .int .u8 0, .int .u8 0, .int .u8 0, .int .u8 0, .int .i64 0] 89) = w1 at *
  refine H0.out.2.1.mono ?_
  rintro e w2 ⟨rfl, rfl⟩
  go_wp2_with fail
  refine (H0.out.1 _ (Mod.refl no _)).mono ?_
  rintro e w2 ⟨rfl, rfl⟩
  go_wp2_with fail
  refine H0.out.2.2.1.mono ?_
  rintro e w2 ⟨rfl, m2⟩
  have H2 := Lib.hid (And.intro (H0.out.2.2.2.1.mod m2 (fun c => c)) m2)
  have hs2 := (H0.out.2.2.2.1.mod m2 (fun c => c)).lt
  have hs1 := H0.out.2.2.2.2.size
  clear m2
  go_wp2_with (first
    | (refine wpList_store_mid rfl 89 (.tmp 7) (.tmp 17) rfl w2.heap.size 0 (ent k n).toArray rfl rfl (by rw [ele_size HX.out.2.1]; exact var_there (Blk.new w2 89 zl.toArray) rfl) (ele_info HX.out.2.1) (ele_one HX.out.2.1) ?_
       simp only [List.toList_toArray]
       obtain ⟨b6, m6⟩ := var_set (show Blk (w2.alloc (.cells #[.int .u8 0, .int .u8 0, .int .u8 0, .int .u8 0, .int .u8 0, .int .u8 0, .int .u8 0, .int .u8 0, .int .u8 0, .int .u8 0, .int .u8 0, .int .u8 0, .int .u8 0, .int .u8 0, .int .u8 0, .int .u8 0, .int .u8 0, .int .u8 0, .int .u8 0, .int .u8 0, .int .u8 0, .int .u8 0, .int .u8 0, .int .u8 0, .int .u8 0, .int .u8 0, .int .u8 0, .int .u8 0, .int .u8 0, .int .u8 0, .int .u8 0, .int .u8 0, .int .i64 0] 89)) w2.heap.size 89 zl.toArray from Blk.new w2 89 #[.int .u8 0, .int .u8 0, .int .u8 0, .int .u8 0, .int .u8 0, .int .u8 0, .int .u8 0, .int .u8 0, .int .u8 0, .int .u8 0, .int .u8 0, .int .u8 0, .int .u8 0, .int .u8 0, .int .u8 0, .int .u8 0, .int .u8 0, .int .u8 0, .int .u8 0, .int .u8 0, .int .u8 0, .int .u8 0, .int .u8 0, .int .u8 0, .int .u8 0, .int .u8 0, .int .u8 0, .int .u8 0, .int .u8 0, .int .u8 0, .int .u8 0, .int .u8 0, .int .i64 0]) rfl HX.out.2.1
       have m6' : Mod no w2 ((w2.alloc (.cells #[.int .u8 0, .int .u8 0, .int .u8 0, .int .u8 0, .int .u8 0, .int .u8 0, .int .u8 0, .int .u8 0, .int .u8 0, .int .u8 0, .int .u8 0, .int .u8 0, .int .u8 0, .int .u8 0, .int .u8 0, .int .u8 0, .int .u8 0, .int .u8 0, .int .u8 0, .int .u8 0, .int .u8 0, .int .u8 0, .int .u8 0, .int .u8 0, .int .u8 0, .int .u8 0, .int .u8 0, .int .u8 0, .int .u8 0, .int .u8 0, .int .u8 0, .int .u8 0, .int .i64 0] 89)).setCells w2.heap.size 0 (ent k n)) := mod_new ((Mod.refl no w2).alloc _) m6 (Nat.le_refl _)
       have H3 := Lib.hid (And.intro (H2.out.1.mod m6' (fun c => c)) (And.intro (H2.out.2.and_then m6') b6))
       have hs3 : w2.heap.size < ((w2.alloc (.cells #[.int .u8 0, .int .u8 0, .int .u8 0, .int .u8 0, .int .u8 0, .int .u8 0, .int .u8 0, .int .u8 0, .int .u8 0, .int .u8 0, .int .u8 0, .int .u8 0, .int .u8 0, .int .u8 0, .int .u8 0, .int .u8 0, .int .u8 0, .int .u8 0, .int .u8 0, .int .u8 0, .int .u8 0, .int .u8 0, .int .u8 0, .int .u8 0, .int .u8 0, .int .u8 0, .int .u8 0, .int .u8 0, .int .u8 0, .int .u8 0, .int .u8 0, .int .u8 0, .int .i64 0] 89)).setCells w2.heap.size 0 (ent k n)).heap.size := b6.lt
       have hcn : ((w2.alloc (.cells #[.int .u8 0, .int .u8 0, .int .u8 0, .int .u8 0, .int .u8 0, .int .u8 0, .int .u8 0, .int .u8 0, .int .u8 0, .int .u8 0, .int .u8 0, .int .u8 0, .int .u8 0, .int .u8 0, .int .u8 0, .int .u8 0, .int .u8 0, .int .u8 0, .int .u8 0, .int .u8 0, .int .u8 0, .int .u8 0, .int .u8 0, .int .u8 0, .int .u8 0, .int .u8 0, .int .u8 0, .int .u8 0, .int .u8 0, .int .u8 0, .int .u8 0, .int .u8 0, .int .i64 0] 89)).setCells w2.heap.size 0 (ent k n)).cell? ⟨w2.heap.size, 32, none⟩ = some (.int .i64 n) := by rw [b6.cell, List.getElem?_toArray]; exact ent_next HX.out.1.1 n
       have hfn := b6.free 32
       clear b6 m6 m6'
       generalize (w2.alloc (.cells #[.int .u8 0, .int .u8 0, .int .u8 0, .int .u8 0, .int .u8 0, .int .u8 0, .int .u8 0, .int .u8 0, .int .u8 0, .int .u8 0, .int .u8 0, .int .u8 0, .int .u8 0, .int .u8 0, .int .u8 0, .int .u8 0, .int .u8 0, .int .u8 0, .int .u8 0, .int .u8 0, .int .u8 0, .int .u8 0, .int .u8 0, .int .u8 0, .int .u8 0, .int .u8 0, .int .u8 0, .int .u8 0, .int .u8 0, .int .u8 0, .int .u8 0, .int .u8 0, .int .i64 0] 89)).setCells w2.heap.size 0 (ent k n) = w3 at *)
    | (refine wpList_load_mid rfl 89 (.tmp 7) rfl w2.heap.size 0 rfl (ent k n) _ (var_range H3.out.2.2) Try.underlying89 rfl (grey_info HX.out.2.1.1) ?_)
    | (refine wpList_store_mid rfl 89 (.tmp 4) (.tmp 34) rfl w.heap.size 0 (ent k n).toArray rfl rfl (by rw [ele_size HX.out.2.1]; exact var_there H3.out.1 rfl) (ele_info HX.out.2.1) (ele_one HX.out.2.1) ?_
       simp only [List.toList_toArray]
       have mv := (var_set H3.out.1 rfl HX.out.2.1).2
       have HP3 := HH.out.mod_no H3.out.2.1
       have HM3 := (H0.out.2.2.2.2.and_then H3.out.2.1).mono (S' := pset true g gr) (fun _ _ c => c.elim)
       have hb2 := H3.out.1
       have H7 := Lib.hid (And.intro (var_set H3.out.1 rfl HX.out.2.1).1 (And.intro (HP3.mod mv (fun e => ⟨fun c => by have c : lg = w.heap.size := c; rw [← c] at hb2; exact absurd (hb2.same (HP3.l e)).1 (by decide), fun c => by have c : g = w.heap.size := c; exact HNW.out _ (Nat.le_refl _) ⟨e, .inl c.symm⟩, fun c => by have c : gr = w.heap.size := c; exact HNW.out _ (Nat.le_refl _) ⟨e, .inr c.symm⟩⟩)) (mod_new HM3 mv (Nat.le_refl _))))
       clear mv hb2 HP3 HM3
       generalize w3.setCells w.heap.size 0 (ent k n) = w7 at *))
  have hs : L.set i (ent k n) = L := set_same HX.out.2.2.1
  exact grey_done HX.out.2.1.1 (var_range H7.out.1) _ rfl rfl rfl _ Try.results42 _ ⟨rfl, by rw [hs]; exact H7.out.2.1, H7.out.2.2⟩

theorem bump_l (h : PAt w live lg g gr L) (hR : BumpR bottom L L' x ok) : Calls Try.prog 42 #[.pointer (lvP live lg), .bool bottom] w fun e w' => e = .returned (.tuple #[.agg x.toArray, .bool ok]) ∧ PAt w' live lg g gr L' ∧ Mod (pset live g gr) w w' := by
  rcases hR with ⟨rfl, rfl, rfl, rfl⟩ | ⟨k, n, hk, hx, hn0, hn1, rfl, rfl, rfl⟩
  · refine (bump_none h).mono ?_
    rintro e w' ⟨rfl, m⟩
    exact ⟨rfl, h.mod_no m, m.mono (fun _ _ c => c.elim)⟩
  · cases live with
    | false =>
      rw [h.n rfl] at hx
      simp at hx
    | true =>
      unfold bumpI
      by_cases hn : n < 9223372036854775807
      · rw [if_pos hn]
        exact bump_more h hk hx hn0 hn
      · rw [if_neg hn]
        exact bump_full h hk hx hn0 hn
theorem rbump_l {r : Nat} {A : Option Addr} (h : RAt w r A L) (hL : L.length ≤ 1048600) (hR : BumpR bottom L L' x ok) : Calls Try.prog 43 #[.pointer (some ⟨r, 0, none⟩), .bool bottom] w fun e w' => e = .returned (.tuple #[.agg x.toArray, .bool ok]) ∧ (∃ A', RAt w' r A' L' ∧ ∀ b o, A' = some ⟨b, o, none⟩ → L' = [] ∨ w.heap.size ≤ b) ∧ Mod (one r) w w' := by
  rcases hR with ⟨rfl, rfl, rfl, rfl⟩ | ⟨k, n, hk, hx, hn0, hn1, rfl, rfl, rfl⟩
  · refine (rbump_none h).mono ?_
    rintro e w' ⟨rfl, m⟩
    exact ⟨rfl, ⟨A, h.mod_no m, fun _ _ _ => .inl rfl⟩, m.mono (fun _ _ c => c.elim)⟩
  · unfold bumpI
    by_cases hn : n < 9223372036854775807
    · rw [if_pos hn]
      refine (rbump_more h hL hk hx hn0 hn).mono ?_
      rintro e w' ⟨rfl, ⟨A', hA, hb⟩, m⟩
      exact ⟨rfl, ⟨A', hA, fun b o e => .inr (hb b o e)⟩, m⟩
    · rw [if_neg hn]
      refine (rbump_full h hL hk hx hn0 hn).mono ?_
      rintro e w' ⟨rfl, ⟨A', hA, hb⟩, m⟩
      exact ⟨rfl, ⟨A', hA, fun b o e => .inr (hb b o e)⟩, m⟩
theorem rpop_l {r : Nat} {A : Option Addr} (h : RAt w r A L) (hL : L.length ≤ 1048500) (hR : PopR bottom L L' x ok) : Calls Try.prog 45 #[.pointer (some ⟨r, 0, none⟩), .bool bottom] w fun e w' => e = .returned (.tuple #[.agg x.toArray, .bool ok]) ∧ (∃ A', RAt w' r A' L' ∧ ∀ b o, A' = some ⟨b, o, none⟩ → L' = [] ∨ w.heap.size ≤ b) ∧ Mod (one r) w w' := by
  rcases hR with ⟨rfl, rfl, rfl, rfl⟩ | ⟨rfl, rfl, rfl⟩ | ⟨rfl, rfl, rfl⟩
  · refine (rpop_none h).mono ?_
    rintro e w' ⟨rfl, m⟩
    exact ⟨rfl, ⟨A, h.mod_no m, fun _ _ _ => .inl rfl⟩, m.mono (fun _ _ c => c.elim)⟩
  · refine (rpop_bottom h (by rw [List.length_cons] at hL; omega)).mono ?_
    rintro e w' ⟨rfl, ⟨A', hA, hb⟩, m⟩
    exact ⟨rfl, ⟨A', hA, fun b o e => .inr (hb b o e)⟩, m⟩
  · refine (rpop_top h (by rw [List.length_append] at hL; omega)).mono ?_
    rintro e w' ⟨rfl, ⟨A', hA, hb⟩, m⟩
    exact ⟨rfl, ⟨A', hA, fun b o e => .inr (hb b o e)⟩, m⟩
theorem rat_l {r : Nat} {A : Option Addr} (h : RAt w r A L) (hL : L.length ≤ 1048600) (hR : AtR bottom L x ok) : Calls Try.prog 41 #[.pointer (some ⟨r, 0, none⟩), .bool bottom] w fun e w' => e = .returned (.tuple #[.agg x.toArray, .bool ok]) ∧ Mod no w w' := by
  rcases hR with ⟨rfl, rfl, rfl⟩ | ⟨hx, rfl⟩
  · exact rat_none h
  · exact rat_has h hL hx

end

end Go.Proofs.Ytknbehjhaaidoaa.DG
