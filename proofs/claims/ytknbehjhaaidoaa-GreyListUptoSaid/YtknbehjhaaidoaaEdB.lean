/- The document's list of entries: its Bump and Pop (printed by greyref2.py). -/
import Derived.Test.YtknbehjhaaidoaaEdA
namespace Go.Proofs.Ytknbehjhaaidoaa.DG
open Go.RowKit Mem DQ
set_option linter.unusedVariables false
set_option linter.unusedSimpArgs false

/-- An entry: its key, and how many kids were touched. -/
def ent (k : List Value) (n : Int) : List Value := k ++ [.int .i64 n]
theorem Key.ent {k : List Value} (h : Key k) (n : Int) : Ele (ent k n) := ⟨by simp [DG.ent, h.1], fun v hv => by
  rcases List.mem_append.1 hv with hv | hv
  · exact h.2 v hv
  · simp at hv; subst hv; rfl⟩
theorem ent_set {k : List Value} (h : k.length = 32) (n m : Int) : (ent k n).set 32 (.int .i64 m) = ent k m := by
  unfold ent
  rw [List.set_append_right _ _ (by omega), h]
  rfl
theorem ent_next {k : List Value} (h : k.length = 32) (n : Int) : (ent k n)[32]? = some (.int .i64 n) := by
  unfold ent
  rw [List.getElem?_append_right (by omega), h]
  rfl
def bumpI (n : Int) : Int := if n < 9223372036854775807 then n + 1 else n

theorem flat_set1 {b : Value} {j : Nat} (hj : j < 33) : ∀ (L : List (List Value)) (i : Nat) (x : List Value), (∀ y ∈ L, y.length = 33) → L[i]? = some x → (L.set i (x.set j b)).flatten = L.flatten.set (i * 33 + j) b
  | [], i, x, _, h => by simp at h
  | y :: C, 0, x, hl, h => by
    have hy := hl y (by simp)
    simp at h
    subst h
    simp only [List.set_cons_zero, List.flatten_cons, Nat.zero_mul, Nat.zero_add]
    rw [List.set_append_left _ _ (by omega)]
  | y :: C, i + 1, x, hl, h => by
    have hy := hl y (by simp)
    simp only [List.set_cons_succ, List.flatten_cons]
    rw [flat_set1 hj C i x (fun z hz => hl z (by simp [hz])) (by simpa using h), List.set_append_right _ _ (by omega), hy, show (i + 1) * 33 + j - 33 = i * 33 + j by omega]

theorem own_set1 {w : World} {base g n cap i j : Nat} {L : List (List Value)} {x : List Value} {b : Value} (h : w.ownsRow base 89 33 (.slice (some ⟨g, 0, none⟩) n cap) L.length L.flatten) (he : ∀ x ∈ L, Ele x) (hx : L[i]? = some x) (hj : j < 33) :
    (w.setCell ⟨g, i * 33 + j, none⟩ b).ownsRow base 89 33 (.slice (some ⟨g, 0, none⟩) n cap) L.length (L.set i (x.set j b)).flatten := by
  have hl : ∀ y ∈ L, y.length = 33 := fun y hy => (he y hy).1
  rw [flat_set1 hj L i x hl hx]
  refine ⟨by rw [List.length_set]; exact h.1, ?_⟩
  rcases h.2 with ⟨h1, _⟩ | ⟨g', cap', cur, h1, h2, h3, h4, h5, h6, h7⟩
  · cases h1
  · injection h1 with h1 h8 h9
    injection h1 with h1
    injection h1 with h1
    subst h1 h8 h9
    have hb : Blk w g 89 cur := h3
    refine .inr ⟨g, cap, cur.setIfInBounds (i * 33 + j) b, rfl, h2, hb.put _ _, h4, h5, by rw [Array.size_setIfInBounds]; exact h6, ?_⟩
    rw [Array.toList_setIfInBounds, List.take_set, h7]
theorem own_range {w : World} {base g n cap i : Nat} {L : List (List Value)} {x : List Value} (h : w.ownsRow base 89 33 (.slice (some ⟨g, 0, none⟩) n cap) L.length L.flatten) (he : ∀ x ∈ L, Ele x) (hx : L[i]? = some x) : w.rangeAt g (i * 33) x := by
  obtain ⟨A, c, e, hs, _⟩ := Src.own h he
  injection e with e _ _
  obtain ⟨b, o, e', _, hr⟩ := hs.at_ (by have := (List.getElem?_eq_some_iff.1 hx).1; omega)
  rw [← e] at e'
  injection e' with e'
  injection e' with e1 e2
  subst e1 e2
  have := hr i x hx
  rwa [Nat.zero_add] at this
theorem own_head {w : World} {base : Nat} {v : Value} {L : List (List Value)} (h : w.ownsRow base 89 33 v L.length L.flatten) (hl : 0 < L.length) : ∃ g cap, v = .slice (some ⟨g, 0, none⟩) L.length cap ∧ base ≤ g ∧ g < w.heap.size ∧ L.length ≤ cap ∧ (∀ o, w.frozen? ⟨g, o, none⟩ = false) := by
  rcases h.2 with ⟨h1, h2⟩ | ⟨g', cap', cur, h1, h2, h3, h4, h5, h6, h7⟩
  · omega
  · have hb : Blk w g' 89 cur := h3
    exact ⟨g', cap', h1, h2, hb.lt, h4, fun o => hb.free o⟩
theorem RNew.mod {S : Nat → Prop} {w0 w w' : World} {r : Nat} {L : List (List Value)} (h : RNew w0 w r L) (hm : Mod S w w') (h1 : ¬ S r) (h2 : ∀ b, w0.heap.size ≤ b → ¬ S b) : RNew w0 w' r L := by
  obtain ⟨A, hA, hb⟩ := h
  exact ⟨A, hA.mod hm h1 (fun b o e => h2 b (hb b o e)), hb⟩
theorem RNew.weak {w0 w1 w : World} {r : Nat} {L : List (List Value)} (h : RNew w1 w r L) (hs : w0.heap.size ≤ w1.heap.size) : RNew w0 w r L := by
  obtain ⟨A, hA, hb⟩ := h
  exact ⟨A, hA, fun b o e => Nat.le_trans hs (hb b o e)⟩
theorem set_same {α : Type} {L : List α} {i : Nat} {x : α} (h : L[i]? = some x) : L.set i x = L := by
  apply List.ext_getElem?
  intro j
  by_cases e : i = j
  · subst e
    rw [List.getElem?_set_self (List.getElem?_eq_some_iff.1 h).1, h]
  · rw [List.getElem?_set_ne e]
theorem set_ele {L : List (List Value)} (he : ∀ x ∈ L, Ele x) {i : Nat} {x : List Value} (hx : Ele x) : ∀ y ∈ L.set i x, Ele y := fun y hy => by
  rcases List.mem_or_eq_of_mem_set hy with h | rfl
  · exact he y h
  · exact hx


set_option maxRecDepth 100000 in
set_option maxHeartbeats 4000000 in
theorem rbump_more {w : World} {r : Nat} {bottom : Bool} {A : Option Addr} {L : List (List Value)} {k : List Value} {n : Int} (h : RAt w r A L) (hL : L.length ≤ 1048600) (hk : Key k) (hx : L[endN bottom L.length]? = some (ent k n)) (hn0 : -9223372036854775808 ≤ n) (hn : n < 9223372036854775807) :
    Calls Try.prog 43 #[.pointer (some ⟨r, 0, none⟩), .bool bottom] w fun e w' => e = .returned (.tuple #[.agg (ent k (n + 1)).toArray, .bool true]) ∧ RNew w w' r (L.set (endN bottom L.length) (ent k (n + 1))) ∧ Mod (one r) w w' := by
  obtain ⟨c, hb, hs, hc⟩ := h.at_
  have hlt := (List.getElem?_eq_some_iff.1 hx).1
  obtain ⟨i, hi⟩ : ∃ i, i = endN bottom L.length := ⟨_, rfl⟩
  rw [← hi] at hx hlt ⊢
  have hrl := hb.lt
  have m1 : Mod no w (w.alloc (.cells #[.int .u8 0, .int .u8 0, .int .u8 0, .int .u8 0, .int .u8 0, .int .u8 0, .int .u8 0, .int .u8 0, .int .u8 0, .int .u8 0, .int .u8 0, .int .u8 0, .int .u8 0, .int .u8 0, .int .u8 0, .int .u8 0, .int .u8 0, .int .u8 0, .int .u8 0, .int .u8 0, .int .u8 0, .int .u8 0, .int .u8 0, .int .u8 0, .int .u8 0, .int .u8 0, .int .u8 0, .int .u8 0, .int .u8 0, .int .u8 0, .int .u8 0, .int .u8 0, .int .i64 0] 89)) := (Mod.refl no w).alloc _
  have H0 := Lib.hid (And.intro (hb.mod m1 (fun c => c)) (And.intro (hs.mod_no m1) (And.intro (Blk.new w 89 #[.int .u8 0, .int .u8 0, .int .u8 0, .int .u8 0, .int .u8 0, .int .u8 0, .int .u8 0, .int .u8 0, .int .u8 0, .int .u8 0, .int .u8 0, .int .u8 0, .int .u8 0, .int .u8 0, .int .u8 0, .int .u8 0, .int .u8 0, .int .u8 0, .int .u8 0, .int .u8 0, .int .u8 0, .int .u8 0, .int .u8 0, .int .u8 0, .int .u8 0, .int .u8 0, .int .u8 0, .int .u8 0, .int .u8 0, .int .u8 0, .int .u8 0, .int .u8 0, .int .i64 0]) m1)))
  have HP := Lib.hid (And.intro hk (And.intro hx (And.intro (And.intro hi hL) hs.e)))
  have hi0 : ¬ (i : Int) < 0 := by omega
  have hi1 : (i : Int) < (L.length : Int) := by omega
  have c0 := (hb.mod m1 (fun c => c)).cell 0
  simp at c0
  have hl0 : ¬ L.length = 0 := by omega
  have hw64 : wrap64 (n + 1) = n + 1 := IntWalk.wrap64_in _ (by omega)
  clear hb hs hc hx hi hL hk m1 h
  go_enter Try.func43, Try.ntmps43
  go_wp2_with fail
  generalize w.alloc (.cells #[.int .u8 0, .int .u8 0, .int .u8 0, .int .u8 0, .int .u8 0, .int .u8 0, .int .u8 0, .int .u8 0, .int .u8 0, .int .u8 0, .int .u8 0, .int .u8 0, .int .u8 0, .int .u8 0, .int .u8 0, .int .u8 0, .int .u8 0, .int .u8 0, .int .u8 0, .int .u8 0, .int .u8 0, .int .u8 0, .int .u8 0, .int .u8 0, .int .u8 0, .int .u8 0, .int .u8 0, .int .u8 0, .int .u8 0, .int .u8 0, .int .u8 0, .int .u8 0, .int .i64 0] 89) = w1 at *
  refine (rend_any H0.out.1 HP.out.2.2.1.2).mono ?_
  rintro e w2 ⟨rfl, rfl⟩
  rw [show rendV bottom L.length = (endN bottom L.length : Int) from if_neg hl0, ← HP.out.2.2.1.1]
  go_wp2_with fail
  refine (greys_any H0.out.2.1 HP.out.2.2.1.2).mono ?_
  rintro e w2 ⟨v, rfl, hown, m2⟩
  obtain ⟨g, cap, rfl, hg1, hg2, hcap, hfz⟩ := own_head hown (by omega)
  have hs1 := H0.out.2.2.2.size
  have hrg : r ≠ g := by omega
  have hgr : g ≠ r := fun e => hrg e.symm
  have hgw : w.heap.size ≠ g := by have := H0.out.2.2.1.lt; omega
  have hrw : w.heap.size ≠ r := by omega
  have hb2 := H0.out.1.mod m2 (fun c => c)
  have c2 := hb2.cell 0
  have f2 := hb2.free 0
  simp at c2
  have hcn : w2.cell? ⟨g, i * 33 + 32, none⟩ = some (.int .i64 n) := own_range hown HP.out.2.2.2 HP.out.2.1 32 _ (ent_next HP.out.1.1 n)
  have hfn := hfz (i * 33 + 32)
  have ho3 := own_set1 (b := .int .i64 (n + 1)) (j := 32) hown HP.out.2.2.2 HP.out.2.1 (by decide)
  rw [ent_set HP.out.1.1] at ho3
  have he3 : ∀ y ∈ L.set i (ent k (n + 1)), Ele y := set_ele HP.out.2.2.2 (HP.out.1.ent _)
  have hl3 : (L.set i (ent k (n + 1))).length = L.length := List.length_set
  have hb3 : Blk (w2.setCell ⟨g, i * 33 + 32, none⟩ (.int .i64 (n + 1))) r 37 #[.slice A L.length c] := hb2.far (p := ⟨g, i * 33 + 32, none⟩) hrg _
  have m3 : Mod (one r) w1 ((w2.setCell ⟨g, i * 33 + 32, none⟩ (.int .i64 (n + 1))).setCell ⟨r, 0, none⟩ (.slice (some ⟨g, 0, none⟩) L.length cap)) := (((m2.mono (S := no) (S' := one r) (fun _ _ c => c.elim)).set (p := ⟨g, i * 33 + 32, none⟩) (fun h => absurd h (by show ¬ g < _; omega)) _)).set (p := ⟨r, 0, none⟩) (fun _ => rfl) _
  have hN : RNew w1 ((w2.setCell ⟨g, i * 33 + 32, none⟩ (.int .i64 (n + 1))).setCell ⟨r, 0, none⟩ (.slice (some ⟨g, 0, none⟩) L.length cap)) r (L.set i (ent k (n + 1))) := RNew.laid (base := w1.heap.size) (by rw [hl3]; exact ho3) he3 hb3 (by omega) (Nat.le_refl _)
  have hrng : ((w2.setCell ⟨g, i * 33 + 32, none⟩ (.int .i64 (n + 1))).setCell ⟨r, 0, none⟩ (.slice (some ⟨g, 0, none⟩) L.length cap)).rangeAt g (i * 33) (ent k (n + 1)) := by
    have ho4 := own_mod33 ho3 ((Mod.refl (one r) (w2.setCell ⟨g, i * 33 + 32, none⟩ (.int .i64 (n + 1)))).set (p := ⟨r, 0, none⟩) (fun _ => rfl) (.slice (some ⟨g, 0, none⟩) L.length cap)) (fun b hb _ c => by have c : b = r := c; omega)
    refine own_range (by rw [hl3]; exact ho4) he3 ?_
    rw [List.getElem?_set_self (by omega)]
  have hv4 : Blk ((w2.setCell ⟨g, i * 33 + 32, none⟩ (.int .i64 (n + 1))).setCell ⟨r, 0, none⟩ (.slice (some ⟨g, 0, none⟩) L.length cap)) w.heap.size 89 #[.int .u8 0, .int .u8 0, .int .u8 0, .int .u8 0, .int .u8 0, .int .u8 0, .int .u8 0, .int .u8 0, .int .u8 0, .int .u8 0, .int .u8 0, .int .u8 0, .int .u8 0, .int .u8 0, .int .u8 0, .int .u8 0, .int .u8 0, .int .u8 0, .int .u8 0, .int .u8 0, .int .u8 0, .int .u8 0, .int .u8 0, .int .u8 0, .int .u8 0, .int .u8 0, .int .u8 0, .int .u8 0, .int .u8 0, .int .u8 0, .int .u8 0, .int .u8 0, .int .i64 0] := ((H0.out.2.2.1.mod m2 (fun c => c)).far (p := ⟨g, i * 33 + 32, none⟩) hgw _).far (p := ⟨r, 0, none⟩) hrw _
  have H3 := Lib.hid (And.intro hN (And.intro hrng (And.intro hv4 m3)))
  clear hb2 hown hfz ho3 he3 hl3 hb3 m3 hN hrng hv4 m2 c0 
  go_wp2_with (first
    | (refine wpList_load_mid rfl 89 (.tmp 39) rfl g (i * 33) rfl (ent k (n + 1)) _ H3.out.2.1 Try.underlying89 rfl (grey_info (HP.out.1.ent _).1) ?_
       generalize ((w2.setCell ⟨g, i * 33 + 32, none⟩ (.int .i64 (n + 1))).setCell ⟨r, 0, none⟩ (.slice (some ⟨g, 0, none⟩) L.length cap)) = w4 at *)
    | (refine wpList_store_mid rfl 89 (.tmp 4) (.tmp 40) rfl w.heap.size 0 (ent k (n + 1)).toArray rfl rfl (by rw [ele_size (HP.out.1.ent _)]; exact var_there H3.out.2.2.1 rfl) (ele_info (HP.out.1.ent _)) (ele_one (HP.out.1.ent _)) ?_
       simp only [List.toList_toArray]
       have hset := var_set H3.out.2.2.1 rfl (HP.out.1.ent (n + 1))
       have m1' : Mod (one r) w w4 := (H0.out.2.2.2.mono (S' := one r) (fun _ _ c => c.elim)).and_then H3.out.2.2.2
       have H5 := Lib.hid (And.intro hset.1 (And.intro (mod_new m1' hset.2 (Nat.le_refl _)) ((RNew.mod H3.out.1 hset.2 (fun c => hrw (show w.heap.size = r from c.symm)) (fun b hb c => by have c : b = w.heap.size := c; have := H0.out.2.2.1.lt; omega)).weak hs1)))
       clear hset m1'
       generalize w4.setCells w.heap.size 0 (ent k (n + 1)) = w5 at *))
  exact grey_done (HP.out.1.ent _).1 (var_range H5.out.1) _ rfl rfl rfl _ Try.results43 _ ⟨rfl, H5.out.2.2, H5.out.2.1⟩

set_option maxRecDepth 100000 in
set_option maxHeartbeats 4000000 in
theorem rbump_full {w : World} {r : Nat} {bottom : Bool} {A : Option Addr} {L : List (List Value)} {k : List Value} {n : Int} (h : RAt w r A L) (hL : L.length ≤ 1048600) (hk : Key k) (hx : L[endN bottom L.length]? = some (ent k n)) (hn0 : -9223372036854775808 ≤ n) (hn : ¬ n < 9223372036854775807) :
    Calls Try.prog 43 #[.pointer (some ⟨r, 0, none⟩), .bool bottom] w fun e w' => e = .returned (.tuple #[.agg (ent k n).toArray, .bool true]) ∧ RNew w w' r (L.set (endN bottom L.length) (ent k n)) ∧ Mod (one r) w w' := by
  obtain ⟨c, hb, hs, hc⟩ := h.at_
  have hlt := (List.getElem?_eq_some_iff.1 hx).1
  obtain ⟨i, hi⟩ : ∃ i, i = endN bottom L.length := ⟨_, rfl⟩
  rw [← hi] at hx hlt ⊢
  have hrl := hb.lt
  have m1 : Mod no w (w.alloc (.cells #[.int .u8 0, .int .u8 0, .int .u8 0, .int .u8 0, .int .u8 0, .int .u8 0, .int .u8 0, .int .u8 0, .int .u8 0, .int .u8 0, .int .u8 0, .int .u8 0, .int .u8 0, .int .u8 0, .int .u8 0, .int .u8 0, .int .u8 0, .int .u8 0, .int .u8 0, .int .u8 0, .int .u8 0, .int .u8 0, .int .u8 0, .int .u8 0, .int .u8 0, .int .u8 0, .int .u8 0, .int .u8 0, .int .u8 0, .int .u8 0, .int .u8 0, .int .u8 0, .int .i64 0] 89)) := (Mod.refl no w).alloc _
  have H0 := Lib.hid (And.intro (hb.mod m1 (fun c => c)) (And.intro (hs.mod_no m1) (And.intro (Blk.new w 89 #[.int .u8 0, .int .u8 0, .int .u8 0, .int .u8 0, .int .u8 0, .int .u8 0, .int .u8 0, .int .u8 0, .int .u8 0, .int .u8 0, .int .u8 0, .int .u8 0, .int .u8 0, .int .u8 0, .int .u8 0, .int .u8 0, .int .u8 0, .int .u8 0, .int .u8 0, .int .u8 0, .int .u8 0, .int .u8 0, .int .u8 0, .int .u8 0, .int .u8 0, .int .u8 0, .int .u8 0, .int .u8 0, .int .u8 0, .int .u8 0, .int .u8 0, .int .u8 0, .int .i64 0]) m1)))
  have HP := Lib.hid (And.intro hk (And.intro hx (And.intro (And.intro hi hL) hs.e)))
  have hi0 : ¬ (i : Int) < 0 := by omega
  have hi1 : (i : Int) < (L.length : Int) := by omega
  have c0 := (hb.mod m1 (fun c => c)).cell 0
  simp at c0
  have hl0 : ¬ L.length = 0 := by omega
  
  clear hb hs hc hx hi hL hk m1 h
  go_enter Try.func43, Try.ntmps43
  go_wp2_with fail
  generalize w.alloc (.cells #[.int .u8 0, .int .u8 0, .int .u8 0, .int .u8 0, .int .u8 0, .int .u8 0, .int .u8 0, .int .u8 0, .int .u8 0, .int .u8 0, .int .u8 0, .int .u8 0, .int .u8 0, .int .u8 0, .int .u8 0, .int .u8 0, .int .u8 0, .int .u8 0, .int .u8 0, .int .u8 0, .int .u8 0, .int .u8 0, .int .u8 0, .int .u8 0, .int .u8 0, .int .u8 0, .int .u8 0, .int .u8 0, .int .u8 0, .int .u8 0, .int .u8 0, .int .u8 0, .int .i64 0] 89) = w1 at *
  refine (rend_any H0.out.1 HP.out.2.2.1.2).mono ?_
  rintro e w2 ⟨rfl, rfl⟩
  rw [show rendV bottom L.length = (endN bottom L.length : Int) from if_neg hl0, ← HP.out.2.2.1.1]
  go_wp2_with fail
  refine (greys_any H0.out.2.1 HP.out.2.2.1.2).mono ?_
  rintro e w2 ⟨v, rfl, hown, m2⟩
  obtain ⟨g, cap, rfl, hg1, hg2, hcap, hfz⟩ := own_head hown (by omega)
  have hs1 := H0.out.2.2.2.size
  have hrg : r ≠ g := by omega
  have hgr : g ≠ r := fun e => hrg e.symm
  have hgw : w.heap.size ≠ g := by have := H0.out.2.2.1.lt; omega
  have hrw : w.heap.size ≠ r := by omega
  have hb2 := H0.out.1.mod m2 (fun c => c)
  have c2 := hb2.cell 0
  have f2 := hb2.free 0
  simp at c2
  have hcn : w2.cell? ⟨g, i * 33 + 32, none⟩ = some (.int .i64 n) := own_range hown HP.out.2.2.2 HP.out.2.1 32 _ (ent_next HP.out.1.1 n)
  have hfn := hfz (i * 33 + 32)
  have ho3 := hown
  have hx3 : L.set i (ent k n) = L := set_same HP.out.2.1
  rw [← hx3] at ho3
  rw [List.length_set] at ho3
  have he3 : ∀ y ∈ L.set i (ent k n), Ele y := set_ele HP.out.2.2.2 (HP.out.1.ent _)
  have hl3 : (L.set i (ent k n)).length = L.length := List.length_set
  have hb3 : Blk w2 r 37 #[.slice A L.length c] := hb2
  have m3 : Mod (one r) w1 (w2.setCell ⟨r, 0, none⟩ (.slice (some ⟨g, 0, none⟩) L.length cap)) := (m2.mono (S := no) (S' := one r) (fun _ _ c => c.elim)).set (p := ⟨r, 0, none⟩) (fun _ => rfl) _
  have hN : RNew w1 (w2.setCell ⟨r, 0, none⟩ (.slice (some ⟨g, 0, none⟩) L.length cap)) r (L.set i (ent k n)) := RNew.laid (base := w1.heap.size) (by rw [hl3]; exact ho3) he3 hb3 (by omega) (Nat.le_refl _)
  have hrng : (w2.setCell ⟨r, 0, none⟩ (.slice (some ⟨g, 0, none⟩) L.length cap)).rangeAt g (i * 33) (ent k n) := by
    have ho4 := own_mod33 ho3 ((Mod.refl (one r) w2).set (p := ⟨r, 0, none⟩) (fun _ => rfl) (.slice (some ⟨g, 0, none⟩) L.length cap)) (fun b hb _ c => by have c : b = r := c; omega)
    refine own_range (by rw [hl3]; exact ho4) he3 ?_
    rw [List.getElem?_set_self (by omega)]
  have hv4 : Blk (w2.setCell ⟨r, 0, none⟩ (.slice (some ⟨g, 0, none⟩) L.length cap)) w.heap.size 89 #[.int .u8 0, .int .u8 0, .int .u8 0, .int .u8 0, .int .u8 0, .int .u8 0, .int .u8 0, .int .u8 0, .int .u8 0, .int .u8 0, .int .u8 0, .int .u8 0, .int .u8 0, .int .u8 0, .int .u8 0, .int .u8 0, .int .u8 0, .int .u8 0, .int .u8 0, .int .u8 0, .int .u8 0, .int .u8 0, .int .u8 0, .int .u8 0, .int .u8 0, .int .u8 0, .int .u8 0, .int .u8 0, .int .u8 0, .int .u8 0, .int .u8 0, .int .u8 0, .int .i64 0] := (H0.out.2.2.1.mod m2 (fun c => c)).far (p := ⟨r, 0, none⟩) hrw _
  have H3 := Lib.hid (And.intro hN (And.intro hrng (And.intro hv4 m3)))
  clear hb2 hown hfz ho3 he3 hl3 hb3 m3 hN hrng hv4 m2 c0 hx3
  go_wp2_with (first
    | (refine wpList_load_mid rfl 89 (.tmp 39) rfl g (i * 33) rfl (ent k n) _ H3.out.2.1 Try.underlying89 rfl (grey_info (HP.out.1.ent _).1) ?_
       generalize (w2.setCell ⟨r, 0, none⟩ (.slice (some ⟨g, 0, none⟩) L.length cap)) = w4 at *)
    | (refine wpList_store_mid rfl 89 (.tmp 4) (.tmp 40) rfl w.heap.size 0 (ent k n).toArray rfl rfl (by rw [ele_size (HP.out.1.ent _)]; exact var_there H3.out.2.2.1 rfl) (ele_info (HP.out.1.ent _)) (ele_one (HP.out.1.ent _)) ?_
       simp only [List.toList_toArray]
       have hset := var_set H3.out.2.2.1 rfl (HP.out.1.ent n)
       have m1' : Mod (one r) w w4 := (H0.out.2.2.2.mono (S' := one r) (fun _ _ c => c.elim)).and_then H3.out.2.2.2
       have H5 := Lib.hid (And.intro hset.1 (And.intro (mod_new m1' hset.2 (Nat.le_refl _)) ((RNew.mod H3.out.1 hset.2 (fun c => hrw (show w.heap.size = r from c.symm)) (fun b hb c => by have c : b = w.heap.size := c; have := H0.out.2.2.1.lt; omega)).weak hs1)))
       clear hset m1'
       generalize w4.setCells w.heap.size 0 (ent k n) = w5 at *))
  exact grey_done (HP.out.1.ent _).1 (var_range H5.out.1) _ rfl rfl rfl _ Try.results43 _ ⟨rfl, H5.out.2.2, H5.out.2.1⟩

end Go.Proofs.Ytknbehjhaaidoaa.DG
