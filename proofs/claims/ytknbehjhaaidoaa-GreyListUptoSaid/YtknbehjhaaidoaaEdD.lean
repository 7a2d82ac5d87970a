/- The work list of the program, or a nil one: its ends, its length, what is taken off (printed by greylist.py). -/
import Derived.Test.YtknbehjhaaidoaaEdC
namespace Go.Proofs.Ytknbehjhaaidoaa.DG
open Go.RowKit Mem DQ
set_option linter.unusedVariables false
set_option linter.unusedSimpArgs false

/-- A list's address, nil if it is none. -/
def lvP (live : Bool) (lg : Nat) : Option Addr := if live then some ⟨lg, 0, none⟩ else none
/-- A work list, or nil. -/
structure PAt (w : World) (live : Bool) (lg g gr : Nat) (L : List (List Value)) : Prop where
  l : live = true → Blk w lg 95 #[.pointer (some ⟨g, 0, none⟩)]
  d : live = true → GAt w g gr L
  n : live = false → L = []
section
variable {w w' : World} {live bottom ok : Bool} {lg g gr : Nat} {L L' : List (List Value)} {x : List Value} {S : Nat → Prop}
theorem PAt.mod (h : PAt w live lg g gr L) (hm : Mod S w w') (h0 : live = true → ¬ S lg ∧ ¬ S g ∧ ¬ S gr) : PAt w' live lg g gr L :=
  ⟨fun e => (h.l e).mod hm (h0 e).1, fun e => (h.d e).mod hm (h0 e).2.1 (h0 e).2.2, h.n⟩
theorem PAt.mod_no (h : PAt w live lg g gr L) (hm : Mod no w w') : PAt w' live lg g gr L := h.mod hm (fun _ => ⟨fun c => c, fun c => c, fun c => c⟩)
/-- What a change of the list may touch. -/
def pset (live : Bool) (g gr : Nat) : Nat → Prop := fun b => live = true ∧ two g gr b
theorem PAt.lt (h : PAt w live lg g gr L) {b : Nat} (c : pset live g gr b) : b < w.heap.size := by
  obtain ⟨e, c⟩ := c
  obtain ⟨C, f, H, _⟩ := h.d e
  rcases c with c | c
  · rw [c]; exact H.d.lt
  · rw [c]; exact H.r.lt
theorem PAt.far (h : PAt w live lg g gr L) {b : Nat} {t : TypeId} {cs : Array Value} (hb : Blk w b t cs) (h1 : t ≠ 121) (h2 : t ≠ 89) : ¬ pset live g gr b := fun c => by
  obtain ⟨e, c⟩ := c
  obtain ⟨C, f, H, _⟩ := h.d e
  rcases c with c | c
  · rw [c] at hb; exact h1 (hb.same H.d).1
  · rw [c] at hb; exact h2 (hb.same H.r).1
theorem PAt.new (h : PAt w live lg g gr L) {b : Nat} (hb : w.heap.size ≤ b) : ¬ pset live g gr b := fun c => by have := h.lt c; omega
theorem PAt.step {gr' : Nat} (h : PAt w live lg g gr L) (m : Mod (pset live g gr) w w') (hd : live = true → GAt w' g gr' L') (hn : live = false → L' = []) : PAt w' live lg g gr' L' :=
  ⟨fun e => (h.l e).mod m (h.far (h.l e) (by decide) (by decide)), hd, hn⟩
theorem pset_live {g gr b : Nat} (h : two g gr b) : pset true g gr b := ⟨rfl, h⟩
theorem PAt.q (h : PAt w live lg g gr L) : QAt w (lvP live g) L := by
  cases live with
  | true => exact .inr ⟨g, gr, rfl, h.d rfl⟩
  | false => exact .inl ⟨rfl, h.n rfl⟩
theorem QAt.ele {dp : Option Addr} (h : QAt w dp L) : ∀ x ∈ L, Ele x := by
  rcases h with ⟨_, rfl⟩ | ⟨g, gr, _, C, f, H, _⟩
  · intro x hx; simp at hx
  · exact H.ele
theorem QAt.len_le {dp : Option Addr} (h : QAt w dp L) : L.length ≤ 2097160 := by
  rcases h with ⟨_, rfl⟩ | ⟨g, gr, _, C, f, H, h1, _⟩
  · simp
  · have := H.h.size; omega
set_option maxRecDepth 100000 in
set_option maxHeartbeats 4000000 in
theorem row_l (h : PAt w live lg g gr L) : Calls Try.prog 48 #[.pointer (lvP live lg)] w fun e w' => e = .returned (.pointer (lvP live g)) ∧ w = w' := by
  cases live with
  | true => exact row_any (h.l rfl)
  | false =>
    show Calls Try.prog 48 #[.pointer none] w fun e w' => e = .returned (.pointer none) ∧ w = w'
    go_enter Try.func48, Try.ntmps48
    go_wp2_with fail
    go_ret
    exact ⟨rfl, rfl⟩
set_option maxRecDepth 100000 in
set_option maxHeartbeats 4000000 in
theorem len_l (h : PAt w live lg g gr L) : Calls Try.prog 18 #[.pointer (lvP live lg)] w fun e w' => e = .returned (.int .i64 (L.length : Int)) ∧ w = w' := by
  have H0 := Lib.hid h
  clear h
  obtain ⟨lv, hlv⟩ : ∃ lv, lv = lvP live lg := ⟨_, rfl⟩
  obtain ⟨dp, hdp⟩ : ∃ dp, dp = lvP live g := ⟨_, rfl⟩
  have HR := row_l H0.out
  have HQ := H0.out.q
  rw [← hlv, ← hdp] at HR
  rw [← hdp] at HQ
  rw [← hlv]
  have HX := Lib.hid (And.intro HR HQ)
  clear HR HQ hlv hdp H0
  go_enter Try.func18, Try.ntmps18
  go_wp2_with fail
  refine HX.out.1.mono ?_
  rintro e w2 ⟨rfl, rfl⟩
  go_wp2_with fail
  refine (len_q HX.out.2).mono ?_
  rintro e w2 ⟨rfl, rfl⟩
  go_wp2_with fail
  go_ret
  exact ⟨rfl, rfl⟩
set_option maxRecDepth 100000 in
set_option maxHeartbeats 4000000 in
theorem all_l (h : PAt w live lg g gr L) (hL : L.length ≤ 1048600) : Calls Try.prog 46 #[.pointer (lvP live lg)] w fun e w' => ∃ v, e = .returned v ∧ w'.ownsRow w.heap.size 89 33 v L.length L.flatten ∧ Mod no w w' := by
  have H0 := Lib.hid h
  clear h
  obtain ⟨lv, hlv⟩ : ∃ lv, lv = lvP live lg := ⟨_, rfl⟩
  obtain ⟨dp, hdp⟩ : ∃ dp, dp = lvP live g := ⟨_, rfl⟩
  have HR := row_l H0.out
  have HQ := H0.out.q
  rw [← hlv, ← hdp] at HR
  rw [← hdp] at HQ
  rw [← hlv]
  have HX := Lib.hid (And.intro HR (And.intro HQ hL))
  clear HR HQ hlv hdp H0 hL
  go_enter Try.func46, Try.ntmps46
  go_wp2_with fail
  refine HX.out.1.mono ?_
  rintro e w2 ⟨rfl, rfl⟩
  go_wp2_with fail
  refine (values_any HX.out.2.1 HX.out.2.2).mono ?_
  rintro e w2 ⟨v, rfl, h2, m2⟩
  have H2 := Lib.hid (And.intro h2 m2)
  clear h2 m2
  go_wp2_with fail
  go_ret
  exact ⟨_, rfl, H2.out⟩

/-- The place of an end. -/
def lendV (bottom : Bool) (n : Nat) : Int := if bottom then 0 else (n : Int) - 1
set_option maxRecDepth 100000 in
set_option maxHeartbeats 4000000 in
theorem end_l (h : PAt w live lg g gr L) : Calls Try.prog 75 #[.pointer (lvP live lg), .bool bottom] w fun e w' => e = .returned (.int .i64 (lendV bottom L.length)) ∧ w = w' := by
  cases bottom with
  | true => exact end_bottom
  | false =>
    show Calls Try.prog 75 #[.pointer (lvP live lg), .bool false] w fun e w' => e = .returned (.int .i64 ((L.length : Int) - 1)) ∧ w = w'
    have hl := h.q.len_le
    have hw64 : wrap64 ((L.length : Int) - 1) = (L.length : Int) - 1 := IntWalk.wrap64_in _ (by omega)
    obtain ⟨lv, hlv⟩ : ∃ lv, lv = lvP live lg := ⟨_, rfl⟩
    obtain ⟨dp, hdp⟩ : ∃ dp, dp = lvP live g := ⟨_, rfl⟩
    have HR := row_l h
    have HQ := h.q
    rw [← hlv, ← hdp] at HR
    rw [← hdp] at HQ
    rw [← hlv]
    have HX := Lib.hid (And.intro HR HQ)
    clear HR HQ hlv hdp h hl
    go_enter Try.func75, Try.ntmps75
    go_wp2_with fail
    refine HX.out.1.mono ?_
    rintro e w2 ⟨rfl, rfl⟩
    go_wp2_with fail
    refine (len_q HX.out.2).mono ?_
    rintro e w2 ⟨rfl, rfl⟩
    go_wp2_with fail
    go_ret
    refine ⟨?_, rfl⟩
    show Ending.returned (.int .i64 (wrap64 ((L.length : Int) - 1))) = _
    rw [hw64]

/-- What stands at an end. -/
def AtR (bottom : Bool) (L : List (List Value)) (x : List Value) (ok : Bool) : Prop := (L = [] ∧ x = zl ∧ ok = false) ∨ (L[endN bottom L.length]? = some x ∧ ok = true)
theorem AtR.ele (h : AtR bottom L x ok) (he : ∀ x ∈ L, Ele x) : Ele x := by
  rcases h with ⟨_, rfl, _⟩ | ⟨h, _⟩
  · exact zl_ele
  · exact he x (List.mem_of_getElem? h)
theorem atR_ex (bottom : Bool) (L : List (List Value)) : ∃ x ok, AtR bottom L x ok := by
  cases L with
  | nil => exact ⟨_, _, .inl ⟨rfl, rfl, rfl⟩⟩
  | cons y L =>
    have h : endN bottom (y :: L).length < (y :: L).length := by
      unfold endN
      split <;> simp
    exact ⟨_, _, .inr ⟨List.getElem?_eq_getElem h, rfl⟩⟩
theorem at_u {dp : Option Addr} (h : QAt w dp L) (hR : AtR bottom L x ok) :
    Calls Try.prog 74 #[.pointer dp, .int .i64 (lendV bottom L.length)] w fun e w' => e = .returned (.tuple #[.agg x.toArray, .bool ok]) ∧ Mod no w w' := by
  rcases hR with ⟨rfl, rfl, rfl⟩ | ⟨hx, rfl⟩
  · cases bottom with
    | true => exact at_over h ⟨by decide, by decide⟩
    | false => exact at_neg h (by decide)
  · have hlt := (List.getElem?_eq_some_iff.1 hx).1
    rcases h with ⟨_, rfl⟩ | ⟨g, gr, rfl, C, f, H, _⟩
    · simp at hlt
    · have e : lendV bottom L.length = ((endN bottom L.length : Nat) : Int) := by
        unfold lendV endN at *
        split <;> simp_all <;> omega
      rw [e]
      exact at_has H hx rfl

set_option maxRecDepth 100000 in
set_option maxHeartbeats 4000000 in
theorem top_l (h : PAt w live lg g gr L) (hR : AtR false L x ok) : Calls Try.prog 40 #[.pointer (lvP live lg)] w fun e w' => e = .returned (.tuple #[.agg x.toArray, .bool ok]) ∧ Mod no w w' := by
  have m1 : Mod no w (w.alloc (.cells #[.int .u8 0, .int .u8 0, .int .u8 0, .int .u8 0, .int .u8 0, .int .u8 0, .int .u8 0, .int .u8 0, .int .u8 0, .int .u8 0, .int .u8 0, .int .u8 0, .int .u8 0, .int .u8 0, .int .u8 0, .int .u8 0, .int .u8 0, .int .u8 0, .int .u8 0, .int .u8 0, .int .u8 0, .int .u8 0, .int .u8 0, .int .u8 0, .int .u8 0, .int .u8 0, .int .u8 0, .int .u8 0, .int .u8 0, .int .u8 0, .int .u8 0, .int .u8 0, .int .i64 0] 89)) := (Mod.refl no w).alloc _
  have hxe := hR.ele h.q.ele
  have h1 := h.mod_no m1
  obtain ⟨lv, hlv⟩ : ∃ lv, lv = lvP live lg := ⟨_, rfl⟩
  obtain ⟨dp, hdp⟩ : ∃ dp, dp = lvP live g := ⟨_, rfl⟩
  have HR1 := row_l h1
  have HE1 := end_l (bottom := false) h1
  have HQ1 := h1.q
  rw [← hlv, ← hdp] at HR1
  rw [← hlv] at HE1
  rw [← hdp] at HQ1
  rw [← hlv]
  have H0 := Lib.hid (And.intro HR1 (And.intro HE1 (And.intro HQ1 (And.intro (show Blk (w.alloc (.cells #[.int .u8 0, .int .u8 0, .int .u8 0, .int .u8 0, .int .u8 0, .int .u8 0, .int .u8 0, .int .u8 0, .int .u8 0, .int .u8 0, .int .u8 0, .int .u8 0, .int .u8 0, .int .u8 0, .int .u8 0, .int .u8 0, .int .u8 0, .int .u8 0, .int .u8 0, .int .u8 0, .int .u8 0, .int .u8 0, .int .u8 0, .int .u8 0, .int .u8 0, .int .u8 0, .int .u8 0, .int .u8 0, .int .u8 0, .int .u8 0, .int .u8 0, .int .u8 0, .int .i64 0] 89)) w.heap.size 89 zl.toArray from Blk.new w 89 #[.int .u8 0, .int .u8 0, .int .u8 0, .int .u8 0, .int .u8 0, .int .u8 0, .int .u8 0, .int .u8 0, .int .u8 0, .int .u8 0, .int .u8 0, .int .u8 0, .int .u8 0, .int .u8 0, .int .u8 0, .int .u8 0, .int .u8 0, .int .u8 0, .int .u8 0, .int .u8 0, .int .u8 0, .int .u8 0, .int .u8 0, .int .u8 0, .int .u8 0, .int .u8 0, .int .u8 0, .int .u8 0, .int .u8 0, .int .u8 0, .int .u8 0, .int .u8 0, .int .i64 0]) m1))))
  have HX := Lib.hid (And.intro hxe hR)
  clear m1 hxe h1 HR1 HE1 HQ1 h hlv hdp hR
  obtain ⟨ev, hev⟩ : ∃ ev, ev = lendV false L.length := ⟨_, rfl⟩
  have HV := Lib.hid hev
  clear hev
  go_enter Try.func40, Try.ntmps40
  go_wp2_with fail
  generalize w.alloc (.cells #[.int .u8 0, .int .u8 0, .int .u8 0, .int .u8 0, .int .u8 0, .int .u8 0, .int .u8 0, .int .u8 0, .int .u8 0, .int .u8 0, .int .u8 0, .int .u8 0, .int .u8 0, .int .u8 0, .int .u8 0, .int .u8 0, .int .u8 0, .int .u8 0, .int .u8 0, .int .u8 0, .int .u8 0, .int .u8 0, .int .u8 0, .int .u8 0, .int .u8 0, .int .u8 0, .int .u8 0, .int .u8 0, .int .u8 0, .int .u8 0, .int .u8 0, .int .u8 0, .int .i64 0] 89) = w1 at *
  refine H0.out.1.mono ?_
  rintro e w2 ⟨rfl, rfl⟩
  go_wp2_with fail
  refine H0.out.2.1.mono ?_
  rintro e w2 ⟨rfl, rfl⟩
  rw [← HV.out]
  go_wp2_with fail
  rw [HV.out]
  refine (at_u H0.out.2.2.1 HX.out.2).mono ?_
  rintro e w2 ⟨rfl, m2⟩
  have H2 := Lib.hid (And.intro (H0.out.2.2.2.1.mod m2 (fun c => c)) (H0.out.2.2.2.2.and_then m2))
  clear m2
  rw [← HV.out]
  go_wp2_with (first
    | (refine wpList_store_mid rfl 89 (.tmp 2) (.tmp 9) rfl w.heap.size 0 x.toArray rfl rfl (by rw [ele_size HX.out.1]; exact var_there H2.out.1 rfl) (ele_info HX.out.1) (ele_one HX.out.1) ?_
       simp only [List.toList_toArray]
       have H5 := Lib.hid (And.intro (var_set H2.out.1 rfl HX.out.1).1 (mod_new H2.out.2 (var_set H2.out.1 rfl HX.out.1).2 (Nat.le_refl _)))
       generalize w2.setCells w.heap.size 0 x = w5 at *))
  exact grey_done HX.out.1.1 (var_range H5.out.1) _ rfl rfl rfl _ Try.results40 _ ⟨rfl, H5.out.2⟩

set_option maxRecDepth 100000 in
set_option maxHeartbeats 4000000 in
theorem bottom_l (h : PAt w live lg g gr L) (hR : AtR true L x ok) : Calls Try.prog 37 #[.pointer (lvP live lg)] w fun e w' => e = .returned (.tuple #[.agg x.toArray, .bool ok]) ∧ Mod no w w' := by
  have m1 : Mod no w (w.alloc (.cells #[.int .u8 0, .int .u8 0, .int .u8 0, .int .u8 0, .int .u8 0, .int .u8 0, .int .u8 0, .int .u8 0, .int .u8 0, .int .u8 0, .int .u8 0, .int .u8 0, .int .u8 0, .int .u8 0, .int .u8 0, .int .u8 0, .int .u8 0, .int .u8 0, .int .u8 0, .int .u8 0, .int .u8 0, .int .u8 0, .int .u8 0, .int .u8 0, .int .u8 0, .int .u8 0, .int .u8 0, .int .u8 0, .int .u8 0, .int .u8 0, .int .u8 0, .int .u8 0, .int .i64 0] 89)) := (Mod.refl no w).alloc _
  have hxe := hR.ele h.q.ele
  have h1 := h.mod_no m1
  obtain ⟨lv, hlv⟩ : ∃ lv, lv = lvP live lg := ⟨_, rfl⟩
  obtain ⟨dp, hdp⟩ : ∃ dp, dp = lvP live g := ⟨_, rfl⟩
  have HR1 := row_l h1
  have HE1 := end_l (bottom := true) h1
  have HQ1 := h1.q
  rw [← hlv, ← hdp] at HR1
  rw [← hlv] at HE1
  rw [← hdp] at HQ1
  rw [← hlv]
  have H0 := Lib.hid (And.intro HR1 (And.intro HE1 (And.intro HQ1 (And.intro (show Blk (w.alloc (.cells #[.int .u8 0, .int .u8 0, .int .u8 0, .int .u8 0, .int .u8 0, .int .u8 0, .int .u8 0, .int .u8 0, .int .u8 0, .int .u8 0, .int .u8 0, .int .u8 0, .int .u8 0, .int .u8 0, .int .u8 0, .int .u8 0, .int .u8 0, .int .u8 0, .int .u8 0, .int .u8 0, .int .u8 0, .int .u8 0, .int .u8 0, .int .u8 0, .int .u8 0, .int .u8 0, .int .u8 0, .int .u8 0, .int .u8 0, .int .u8 0, .int .u8 0, .int .u8 0, .int .i64 0] 89)) w.heap.size 89 zl.toArray from Blk.new w 89 #[.int .u8 0, .int .u8 0, .int .u8 0, .int .u8 0, .int .u8 0, .int .u8 0, .int .u8 0, .int .u8 0, .int .u8 0, .int .u8 0, .int .u8 0, .int .u8 0, .int .u8 0, .int .u8 0, .int .u8 0, .int .u8 0, .int .u8 0, .int .u8 0, .int .u8 0, .int .u8 0, .int .u8 0, .int .u8 0, .int .u8 0, .int .u8 0, .int .u8 0, .int .u8 0, .int .u8 0, .int .u8 0, .int .u8 0, .int .u8 0, .int .u8 0, .int .u8 0, .int .i64 0]) m1))))
  have HX := Lib.hid (And.intro hxe hR)
  clear m1 hxe h1 HR1 HE1 HQ1 h hlv hdp hR
  obtain ⟨ev, hev⟩ : ∃ ev, ev = lendV true L.length := ⟨_, rfl⟩
  have HV := Lib.hid hev
  clear hev
  go_enter Try.func37, Try.ntmps37
  go_wp2_with fail
  generalize w.alloc (.cells #[.int .u8 0, .int .u8 0, .int .u8 0, .int .u8 0, .int .u8 0, .int .u8 0, .int .u8 0, .int .u8 0, .int .u8 0, .int .u8 0, .int .u8 0, .int .u8 0, .int .u8 0, .int .u8 0, .int .u8 0, .int .u8 0, .int .u8 0, .int .u8 0, .int .u8 0, .int .u8 0, .int .u8 0, .int .u8 0, .int .u8 0, .int .u8 0, .int .u8 0, .int .u8 0, .int .u8 0, .int .u8 0, .int .u8 0, .int .u8 0, .int .u8 0, .int .u8 0, .int .i64 0] 89) = w1 at *
  refine H0.out.1.mono ?_
  rintro e w2 ⟨rfl, rfl⟩
  go_wp2_with fail
  refine H0.out.2.1.mono ?_
  rintro e w2 ⟨rfl, rfl⟩
  rw [← HV.out]
  go_wp2_with fail
  rw [HV.out]
  refine (at_u H0.out.2.2.1 HX.out.2).mono ?_
  rintro e w2 ⟨rfl, m2⟩
  have H2 := Lib.hid (And.intro (H0.out.2.2.2.1.mod m2 (fun c => c)) (H0.out.2.2.2.2.and_then m2))
  clear m2
  rw [← HV.out]
  go_wp2_with (first
    | (refine wpList_store_mid rfl 89 (.tmp 2) (.tmp 9) rfl w.heap.size 0 x.toArray rfl rfl (by rw [ele_size HX.out.1]; exact var_there H2.out.1 rfl) (ele_info HX.out.1) (ele_one HX.out.1) ?_
       simp only [List.toList_toArray]
       have H5 := Lib.hid (And.intro (var_set H2.out.1 rfl HX.out.1).1 (mod_new H2.out.2 (var_set H2.out.1 rfl HX.out.1).2 (Nat.le_refl _)))
       generalize w2.setCells w.heap.size 0 x = w5 at *))
  exact grey_done HX.out.1.1 (var_range H5.out.1) _ rfl rfl rfl _ Try.results37 _ ⟨rfl, H5.out.2⟩

/-- An entry is taken off an end. -/
def PopR (bottom : Bool) (L L' : List (List Value)) (x : List Value) (ok : Bool) : Prop := (L = [] ∧ L' = [] ∧ x = zl ∧ ok = false) ∨ (bottom = true ∧ L = x :: L' ∧ ok = true) ∨ (bottom = false ∧ L = L' ++ [x] ∧ ok = true)
theorem popR_ex (bottom : Bool) (L : List (List Value)) : ∃ L' x ok, PopR bottom L L' x ok := by
  cases L with
  | nil => exact ⟨_, _, _, .inl ⟨rfl, rfl, rfl, rfl⟩⟩
  | cons y L =>
    cases bottom with
    | true => exact ⟨_, _, _, .inr (.inl ⟨rfl, rfl, rfl⟩)⟩
    | false => exact ⟨(y :: L).dropLast, (y :: L).getLast (by simp), true, .inr (.inr ⟨rfl, (List.dropLast_concat_getLast (by simp)).symm, rfl⟩)⟩
theorem PopR.ele (h : PopR bottom L L' x ok) (he : ∀ x ∈ L, Ele x) : Ele x := by
  rcases h with ⟨_, _, rfl, _⟩ | ⟨_, rfl, _⟩ | ⟨_, rfl, _⟩
  · exact zl_ele
  · exact he x (by simp)
  · exact he x (by simp)
theorem PAt.none (h : PAt w live lg g gr L) (hd : live = false) : L = [] := h.n hd
theorem dpopb (h : PAt w live lg g gr L) (hR : PopR true L L' x ok) : Calls Try.prog 79 #[.pointer (lvP live g)] w fun e w' => e = .returned (.tuple #[.agg x.toArray, .bool ok]) ∧ PAt w' live lg g gr L' ∧ Mod (pset live g gr) w w' := by
  rcases hR with ⟨rfl, rfl, rfl, rfl⟩ | ⟨_, rfl, rfl⟩ | ⟨hb, _, _⟩
  · refine (pop_bottom_none h.q).mono ?_
    rintro e w' ⟨rfl, m⟩
    exact ⟨rfl, h.mod_no m, m.mono (fun _ _ c => c.elim)⟩
  · cases live with
    | false => exact absurd (h.n rfl) (by simp)
    | true =>
      refine (pop_bottom (h.d rfl)).mono ?_
      rintro e w' ⟨rfl, hd', m⟩
      have m' := m.mono (S' := pset true g gr) (fun _ _ c => pset_live c)
      exact ⟨rfl, h.step m' (fun _ => hd') (fun e => absurd e (by decide)), m'⟩
  · exact absurd hb (by decide)
theorem dpopt (h : PAt w live lg g gr L) (hR : PopR false L L' x ok) : Calls Try.prog 80 #[.pointer (lvP live g)] w fun e w' => e = .returned (.tuple #[.agg x.toArray, .bool ok]) ∧ PAt w' live lg g gr L' ∧ Mod (pset live g gr) w w' := by
  rcases hR with ⟨rfl, rfl, rfl, rfl⟩ | ⟨hb, _, _⟩ | ⟨_, rfl, rfl⟩
  · refine (pop_top_none h.q).mono ?_
    rintro e w' ⟨rfl, m⟩
    exact ⟨rfl, h.mod_no m, m.mono (fun _ _ c => c.elim)⟩
  · exact absurd hb (by decide)
  · cases live with
    | false => exact absurd (h.n rfl) (by simp)
    | true =>
      refine (pop_top (h.d rfl)).mono ?_
      rintro e w' ⟨rfl, hd', m⟩
      have m' := m.mono (S' := pset true g gr) (fun _ _ c => pset_live c)
      exact ⟨rfl, h.step m' (fun _ => hd') (fun e => absurd e (by decide)), m'⟩

set_option maxRecDepth 100000 in
set_option maxHeartbeats 4000000 in
theorem popb_l (h : PAt w live lg g gr L) (hR : PopR true L L' x ok) : Calls Try.prog 44 #[.pointer (lvP live lg), .bool true] w fun e w' => e = .returned (.tuple #[.agg x.toArray, .bool ok]) ∧ PAt w' live lg g gr L' ∧ Mod (pset live g gr) w w' := by
  have m1 : Mod no w (w.alloc (.cells #[.int .u8 0, .int .u8 0, .int .u8 0, .int .u8 0, .int .u8 0, .int .u8 0, .int .u8 0, .int .u8 0, .int .u8 0, .int .u8 0, .int .u8 0, .int .u8 0, .int .u8 0, .int .u8 0, .int .u8 0, .int .u8 0, .int .u8 0, .int .u8 0, .int .u8 0, .int .u8 0, .int .u8 0, .int .u8 0, .int .u8 0, .int .u8 0, .int .u8 0, .int .u8 0, .int .u8 0, .int .u8 0, .int .u8 0, .int .u8 0, .int .u8 0, .int .u8 0, .int .i64 0] 89)) := (Mod.refl no w).alloc _
  have hxe := hR.ele h.q.ele
  have h1 := h.mod_no m1
  obtain ⟨lv, hlv⟩ : ∃ lv, lv = lvP live lg := ⟨_, rfl⟩
  obtain ⟨dp, hdp⟩ : ∃ dp, dp = lvP live g := ⟨_, rfl⟩
  have HR1 := row_l h1
  have HP1 := dpopb h1 hR
  rw [← hlv, ← hdp] at HR1
  rw [← hdp] at HP1
  rw [← hlv]
  have H0 := Lib.hid (And.intro HR1 (And.intro HP1 (And.intro (show Blk (w.alloc (.cells #[.int .u8 0, .int .u8 0, .int .u8 0, .int .u8 0, .int .u8 0, .int .u8 0, .int .u8 0, .int .u8 0, .int .u8 0, .int .u8 0, .int .u8 0, .int .u8 0, .int .u8 0, .int .u8 0, .int .u8 0, .int .u8 0, .int .u8 0, .int .u8 0, .int .u8 0, .int .u8 0, .int .u8 0, .int .u8 0, .int .u8 0, .int .u8 0, .int .u8 0, .int .u8 0, .int .u8 0, .int .u8 0, .int .u8 0, .int .u8 0, .int .u8 0, .int .u8 0, .int .i64 0] 89)) w.heap.size 89 zl.toArray from Blk.new w 89 #[.int .u8 0, .int .u8 0, .int .u8 0, .int .u8 0, .int .u8 0, .int .u8 0, .int .u8 0, .int .u8 0, .int .u8 0, .int .u8 0, .int .u8 0, .int .u8 0, .int .u8 0, .int .u8 0, .int .u8 0, .int .u8 0, .int .u8 0, .int .u8 0, .int .u8 0, .int .u8 0, .int .u8 0, .int .u8 0, .int .u8 0, .int .u8 0, .int .u8 0, .int .u8 0, .int .u8 0, .int .u8 0, .int .u8 0, .int .u8 0, .int .u8 0, .int .u8 0, .int .i64 0]) m1)))
  have HX := Lib.hid (And.intro hxe (fun b => h.new (b := b)))
  clear m1 hxe h1 HR1 HP1 hlv hdp hR h
  go_enter Try.func44, Try.ntmps44
  go_wp2_with fail
  generalize w.alloc (.cells #[.int .u8 0, .int .u8 0, .int .u8 0, .int .u8 0, .int .u8 0, .int .u8 0, .int .u8 0, .int .u8 0, .int .u8 0, .int .u8 0, .int .u8 0, .int .u8 0, .int .u8 0, .int .u8 0, .int .u8 0, .int .u8 0, .int .u8 0, .int .u8 0, .int .u8 0, .int .u8 0, .int .u8 0, .int .u8 0, .int .u8 0, .int .u8 0, .int .u8 0, .int .u8 0, .int .u8 0, .int .u8 0, .int .u8 0, .int .u8 0, .int .u8 0, .int .u8 0, .int .i64 0] 89) = w1 at *
  refine H0.out.1.mono ?_
  rintro e w2 ⟨rfl, rfl⟩
  go_wp2_with fail
  refine H0.out.2.1.mono ?_
  rintro e w2 ⟨rfl, h2, m2⟩
  have H2 := Lib.hid (And.intro h2 (And.intro (H0.out.2.2.1.mod m2 (HX.out.2 _ (Nat.le_refl _))) ((H0.out.2.2.2.mono (S' := pset live g gr) (fun _ _ c => c.elim)).and_then m2)))
  clear h2 m2
  go_wp2_with (first
    | (refine wpList_store_mid rfl 89 (.tmp 4) (.tmp 10) rfl w.heap.size 0 x.toArray rfl rfl (by rw [ele_size HX.out.1]; exact var_there H2.out.2.1 rfl) (ele_info HX.out.1) (ele_one HX.out.1) ?_
       simp only [List.toList_toArray]
       have mv := (var_set H2.out.2.1 rfl HX.out.1).2
       have hb2 := H2.out.2.1
       have H5 := Lib.hid (And.intro (var_set H2.out.2.1 rfl HX.out.1).1 (And.intro (H2.out.1.mod mv (fun e => ⟨fun c => by have c : lg = w.heap.size := c; rw [← c] at hb2; exact absurd (hb2.same (H2.out.1.l e)).1 (by decide), fun c => by have c : g = w.heap.size := c; exact HX.out.2 _ (Nat.le_refl _) ⟨e, .inl c.symm⟩, fun c => by have c : gr = w.heap.size := c; exact HX.out.2 _ (Nat.le_refl _) ⟨e, .inr c.symm⟩⟩)) (mod_new H2.out.2.2 mv (Nat.le_refl _))))
       clear mv hb2
       generalize w2.setCells w.heap.size 0 x = w5 at *))
  exact grey_done HX.out.1.1 (var_range H5.out.1) _ rfl rfl rfl _ Try.results44 _ ⟨rfl, H5.out.2.1, H5.out.2.2⟩

set_option maxRecDepth 100000 in
set_option maxHeartbeats 4000000 in
theorem popt_l (h : PAt w live lg g gr L) (hR : PopR false L L' x ok) : Calls Try.prog 44 #[.pointer (lvP live lg), .bool false] w fun e w' => e = .returned (.tuple #[.agg x.toArray, .bool ok]) ∧ PAt w' live lg g gr L' ∧ Mod (pset live g gr) w w' := by
  have m1 : Mod no w (w.alloc (.cells #[.int .u8 0, .int .u8 0, .int .u8 0, .int .u8 0, .int .u8 0, .int .u8 0, .int .u8 0, .int .u8 0, .int .u8 0, .int .u8 0, .int .u8 0, .int .u8 0, .int .u8 0, .int .u8 0, .int .u8 0, .int .u8 0, .int .u8 0, .int .u8 0, .int .u8 0, .int .u8 0, .int .u8 0, .int .u8 0, .int .u8 0, .int .u8 0, .int .u8 0, .int .u8 0, .int .u8 0, .int .u8 0, .int .u8 0, .int .u8 0, .int .u8 0, .int .u8 0, .int .i64 0] 89)) := (Mod.refl no w).alloc _
  have hxe := hR.ele h.q.ele
  have h1 := h.mod_no m1
  obtain ⟨lv, hlv⟩ : ∃ lv, lv = lvP live lg := ⟨_, rfl⟩
  obtain ⟨dp, hdp⟩ : ∃ dp, dp = lvP live g := ⟨_, rfl⟩
  have HR1 := row_l h1
  have HP1 := dpopt h1 hR
  rw [← hlv, ← hdp] at HR1
  rw [← hdp] at HP1
  rw [← hlv]
  have H0 := Lib.hid (And.intro HR1 (And.intro HP1 (And.intro (show Blk (w.alloc (.cells #[.int .u8 0, .int .u8 0, .int .u8 0, .int .u8 0, .int .u8 0, .int .u8 0, .int .u8 0, .int .u8 0, .int .u8 0, .int .u8 0, .int .u8 0, .int .u8 0, .int .u8 0, .int .u8 0, .int .u8 0, .int .u8 0, .int .u8 0, .int .u8 0, .int .u8 0, .int .u8 0, .int .u8 0, .int .u8 0, .int .u8 0, .int .u8 0, .int .u8 0, .int .u8 0, .int .u8 0, .int .u8 0, .int .u8 0, .int .u8 0, .int .u8 0, .int .u8 0, .int .i64 0] 89)) w.heap.size 89 zl.toArray from Blk.new w 89 #[.int .u8 0, .int .u8 0, .int .u8 0, .int .u8 0, .int .u8 0, .int .u8 0, .int .u8 0, .int .u8 0, .int .u8 0, .int .u8 0, .int .u8 0, .int .u8 0, .int .u8 0, .int .u8 0, .int .u8 0, .int .u8 0, .int .u8 0, .int .u8 0, .int .u8 0, .int .u8 0, .int .u8 0, .int .u8 0, .int .u8 0, .int .u8 0, .int .u8 0, .int .u8 0, .int .u8 0, .int .u8 0, .int .u8 0, .int .u8 0, .int .u8 0, .int .u8 0, .int .i64 0]) m1)))
  have HX := Lib.hid (And.intro hxe (fun b => h.new (b := b)))
  clear m1 hxe h1 HR1 HP1 hlv hdp hR h
  go_enter Try.func44, Try.ntmps44
  go_wp2_with fail
  generalize w.alloc (.cells #[.int .u8 0, .int .u8 0, .int .u8 0, .int .u8 0, .int .u8 0, .int .u8 0, .int .u8 0, .int .u8 0, .int .u8 0, .int .u8 0, .int .u8 0, .int .u8 0, .int .u8 0, .int .u8 0, .int .u8 0, .int .u8 0, .int .u8 0, .int .u8 0, .int .u8 0, .int .u8 0, .int .u8 0, .int .u8 0, .int .u8 0, .int .u8 0, .int .u8 0, .int .u8 0, .int .u8 0, .int .u8 0, .int .u8 0, .int .u8 0, .int .u8 0, .int .u8 0, .int .i64 0] 89) = w1 at *
  refine H0.out.1.mono ?_
  rintro e w2 ⟨rfl, rfl⟩
  go_wp2_with fail
  refine H0.out.2.1.mono ?_
  rintro e w2 ⟨rfl, h2, m2⟩
  have H2 := Lib.hid (And.intro h2 (And.intro (H0.out.2.2.1.mod m2 (HX.out.2 _ (Nat.le_refl _))) ((H0.out.2.2.2.mono (S' := pset live g gr) (fun _ _ c => c.elim)).and_then m2)))
  clear h2 m2
  go_wp2_with (first
    | (refine wpList_store_mid rfl 89 (.tmp 4) (.tmp 15) rfl w.heap.size 0 x.toArray rfl rfl (by rw [ele_size HX.out.1]; exact var_there H2.out.2.1 rfl) (ele_info HX.out.1) (ele_one HX.out.1) ?_
       simp only [List.toList_toArray]
       have mv := (var_set H2.out.2.1 rfl HX.out.1).2
       have hb2 := H2.out.2.1
       have H5 := Lib.hid (And.intro (var_set H2.out.2.1 rfl HX.out.1).1 (And.intro (H2.out.1.mod mv (fun e => ⟨fun c => by have c : lg = w.heap.size := c; rw [← c] at hb2; exact absurd (hb2.same (H2.out.1.l e)).1 (by decide), fun c => by have c : g = w.heap.size := c; exact HX.out.2 _ (Nat.le_refl _) ⟨e, .inl c.symm⟩, fun c => by have c : gr = w.heap.size := c; exact HX.out.2 _ (Nat.le_refl _) ⟨e, .inr c.symm⟩⟩)) (mod_new H2.out.2.2 mv (Nat.le_refl _))))
       clear mv hb2
       generalize w2.setCells w.heap.size 0 x = w5 at *))
  exact grey_done HX.out.1.1 (var_range H5.out.1) _ rfl rfl rfl _ Try.results44 _ ⟨rfl, H5.out.2.1, H5.out.2.2⟩

theorem pop_l (h : PAt w live lg g gr L) (hR : PopR bottom L L' x ok) : Calls Try.prog 44 #[.pointer (lvP live lg), .bool bottom] w fun e w' => e = .returned (.tuple #[.agg x.toArray, .bool ok]) ∧ PAt w' live lg g gr L' ∧ Mod (pset live g gr) w w' := by
  cases bottom with
  | true => exact popb_l h hR
  | false => exact popt_l h hR

end

end Go.Proofs.Ytknbehjhaaidoaa.DG
