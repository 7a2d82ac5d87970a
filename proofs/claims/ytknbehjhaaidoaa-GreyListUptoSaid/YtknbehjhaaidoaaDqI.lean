/- The row with two ends, of ints: a function at a time. -/
import Derived.Test.YtknbehjhaaidoaaChecked
import Derived.Test.YtknbehjhaaidoaaMem
import Derived.Test.YtknbehjhaaidoaaDqM
import Derived.StillTailTactics
namespace Go.Proofs.Ytknbehjhaaidoaa.DI
open Go.RowKit Mem DQ
set_option linter.unusedVariables false
set_option linter.unusedSimpArgs false

def iv (v : Int) : Value := .int .i64 v

/-- A Deque of ints at block g, its ring at gr. -/
structure DqAt (w : World) (g gr : Nat) (C : List Int) (f : Nat) (L : List Int) : Prop where
  d : Blk w g 85 #[.bool true, .slice (some ⟨gr, 0, none⟩) C.length C.length, .int .i64 (f : Int), .int .i64 (L.length : Int)]
  r : Blk w gr 3 (C.map iv).toArray
  h : Holds C f L
  b : C.length ≤ 4000000

theorem DqAt.mod {S : Nat → Prop} {w w' : World} {g gr f : Nat} {C L : List Int} (h : DqAt w g gr C f L) (hm : Mod S w w') (h1 : ¬ S g) (h2 : ¬ S gr) : DqAt w' g gr C f L := ⟨h.d.mod hm h1, h.r.mod hm h2, h.h, h.b⟩
theorem DqAt.ne {w : World} {g gr f : Nat} {C L : List Int} (h : DqAt w g gr C f L) : g ≠ gr := fun e => by
  have h1 := h.d
  rw [e] at h1
  exact absurd (h1.same h.r).1 (by decide)

set_option maxRecDepth 100000 in
theorem there_any {w : World} {g : Nat} {v1 v2 v3 : Value} (h : Blk w g 85 #[.bool true, v1, v2, v3]) :
    Calls Try.prog 32 #[.pointer (some ⟨g, 0, none⟩)] w fun e w' => e = .returned (.bool true) ∧ w = w' := by
  have c0 := h.cell 0
  simp at c0
  go_enter Try.func32, Try.ntmps32
  go_wp2_with fail
  go_ret
  exact ⟨rfl, rfl⟩

set_option maxRecDepth 100000 in
theorem len_any {w : World} {g gr f : Nat} {C L : List Int} (h : DqAt w g gr C f L) :
    Calls Try.prog 11 #[.pointer (some ⟨g, 0, none⟩)] w fun e w' => e = .returned (.int .i64 (L.length : Int)) ∧ w = w' := by
  have c3 := h.d.cell 3
  simp at c3
  have HD := Lib.hid h.d
  clear h
  go_enter Try.func11, Try.ntmps11
  go_wp2_with (go_at_call 32; refine (there_any HD.out).mono ?_; rintro e w' ⟨rfl, rfl⟩)
  go_ret
  exact ⟨rfl, rfl⟩

theorem cast_place {f i R : Nat} : ((f : Int) + (i : Int)) % (R : Int) = (((f + i) % R : Nat) : Int) := by push_cast; rfl

set_option maxRecDepth 100000 in
theorem place_any {w : World} {g f i R p : Nat} {v0 v3 : Value} {A : Option Addr} (hp : p = (f + i) % R) (h : Blk w g 85 #[v0, .slice A R R, .int .i64 (f : Int), v3]) (hf : f ≤ 10000000) (hi : i ≤ 10000000) (hR : 0 < R) (hR2 : R ≤ 10000000) :
    Calls Try.prog 34 #[.pointer (some ⟨g, 0, none⟩), .int .i64 (i : Int)] w fun e w' => e = .returned (.int .i64 (p : Int)) ∧ ∃ n, w' = w.drewN n := by
  have c1 := h.cell 1
  have c2 := h.cell 2
  simp at c1 c2
  have hw : wrap64 ((f : Int) + (i : Int)) = (f : Int) + (i : Int) := IntWalk.wrap64_in _ (by omega)
  have hz : ¬ R = 0 := by omega
  have HP := Lib.hid hp
  have HX := Lib.hid (And.intro hf (And.intro hi (And.intro hR hR2)))
  clear hf hi hR hR2 hp
  go_enter Try.func34, Try.ntmps34
  go_wp2_with fail
  go_quiet (fail)
  go_wp2_with fail
  go_ret
  refine ⟨?_, nq, rfl⟩
  show Ending.returned (.int .i64 (((f : Int) + (i : Int)) % (R : Int))) = _
  rw [cast_place, ← HP.out]

/-- The cells of a ring whose place is written. -/
theorem ring_set (C : List Int) (p : Nat) (v : Int) : ((C.map iv).toArray.setIfInBounds p (.int .i64 v)) = ((C.set p v).map iv).toArray := by
  rw [List.setIfInBounds_toArray, List.map_set]; rfl
theorem ring_cell {w : World} {gr p : Nat} {C : List Int} {v : Int} (h : Blk w gr 3 (C.map iv).toArray) (hv : C[p]? = some v) : w.cell? ⟨gr, p, none⟩ = some (.int .i64 v) := by
  rw [h.cell]
  simp [hv, iv]
theorem ring_has {C : List Int} {p : Nat} (h : p < C.length) : ∃ v, C[p]? = some v := ⟨_, List.getElem?_eq_getElem h⟩

def two (g k : Nat) : Nat → Prop := fun b => b = g ∨ b = k

set_option maxRecDepth 100000 in
set_option maxHeartbeats 1000000 in
/-- A place is read and emptied. -/
theorem take_any {w : World} {g gr f i p : Nat} {C : List Int} {x : Int} {v3 : Value} (hd : Blk w g 85 #[.bool true, .slice (some ⟨gr, 0, none⟩) C.length C.length, .int .i64 (f : Int), v3]) (hr : Blk w gr 3 (C.map iv).toArray)
    (hp : p = (f + i) % C.length) (hx : C[p]? = some x) (hf : f ≤ 10000000) (hi : i ≤ 10000000) (hb : C.length ≤ 4000000) :
    Calls Try.prog 35 #[.pointer (some ⟨g, 0, none⟩), .int .i64 (i : Int)] w fun e w' => e = .returned (.int .i64 x) ∧
      Blk w' g 85 #[.bool true, .slice (some ⟨gr, 0, none⟩) C.length C.length, .int .i64 (f : Int), v3] ∧ Blk w' gr 3 ((C.set p 0).map iv).toArray ∧ Mod (one gr) w w' := by
  have hpl := (List.getElem?_eq_some_iff.1 hx).1
  have hne : g ≠ gr := fun e => by rw [e] at hd; exact absurd (hd.same hr).1 (by decide)
  have HD := Lib.hid hd
  have HR := Lib.hid hr
  have HX := Lib.hid (And.intro hx (And.intro hf (And.intro hi (And.intro hb hpl))))
  have hp0 : (0 : Int) ≤ (p : Int) := by omega
  have hpi : (p : Int) < (C.length : Int) := by omega
  have HP := Lib.hid hp
  clear hd hr hx hf hi hb hpl hp
  go_enter Try.func35, Try.ntmps35
  go_wp2_with fail
  refine (place_any HP.out HD.out HX.out.2.1 HX.out.2.2.1 (by have := HX.out; omega) (by have := HX.out; omega)).mono ?_
  rintro e w1 ⟨rfl, n, hw1⟩
  have m1 : Mod no w w1 := by rw [hw1]; exact (Mod.refl no w).drewN n
  have hd1 := HD.out.mod m1 (fun c => c)
  have hr1 := HR.out.mod m1 (fun c => c)
  have c1 := hd1.cell 1
  simp at c1
  have cp := ring_cell hr1 HX.out.1
  have fp := hr1.free p
  have HR1 := Lib.hid hr1
  have HD1 := Lib.hid hd1
  have HM1 := Lib.hid m1
  clear hd1 hr1 m1 hw1
  go_wp2_with fail
  go_ret
  have hr2 := HR1.out.put p (.int .i64 0)
  rw [ring_set] at hr2
  exact ⟨rfl, HD1.out.far (p := ⟨gr, p, none⟩) hne _, hr2, (HM1.out.mono (S' := one gr) (fun _ _ c => c.elim)).set (p := ⟨gr, p, none⟩) (fun _ => rfl) _⟩

/-- The state that a contract speaks of: all of it lies above what W has. -/
def DS (W w : World) (g : Nat) (L : List Int) : Prop := ∃ gr C f, DqAt w g gr C f L ∧ W.heap.size ≤ g ∧ W.heap.size ≤ gr ∧ C.length ≤ 2097160 ∧ 8 ≤ C.length ∧ Mod no W w

theorem two_no {W w w' : World} {g gr : Nat} (old : Mod no W w) (hg : W.heap.size ≤ g) (hgr : W.heap.size ≤ gr) (hm : Mod (two g gr) w w') : Mod no W w' := old.trans hm fun b hb c => by rcases c with c | c <;> omega

set_option maxRecDepth 100000 in
set_option maxHeartbeats 1000000 in
theorem pop_top {W w : World} {g : Nat} {L : List Int} {x : Int} (h : DS W w g (L ++ [x])) :
    Calls Try.prog 12 #[.pointer (some ⟨g, 0, none⟩)] w fun e w' => e = .returned (.tuple #[.int .i64 x, .bool true]) ∧ DS W w' g L := by
  obtain ⟨gr, C, f, H, hg, hgr, hc1, hc2, old⟩ := h
  have hne := H.ne
  have c3 := H.d.cell 3
  have f3 := H.d.free 3
  simp at c3
  obtain ⟨hx, hh⟩ := H.h.pop_top 0
  have hll : ((L.length : Int) + 1) - 1 = (L.length : Int) := by omega
  have hsz := H.h.size
  simp at hsz
  have hnz : ¬ (L.length : Int) + 1 = 0 := by omega
  have hw64 : wrap64 (L.length : Int) = (L.length : Int) := IntWalk.wrap64_in _ (by omega)
  have HH := Lib.hid H
  have HX := Lib.hid (And.intro hx (And.intro hh (And.intro hg (And.intro hgr (And.intro hc1 (And.intro hc2 (And.intro old hsz)))))))
  clear H hx hh hg hgr hc1 hc2 old hll hsz
  go_enter Try.func12, Try.ntmps12
  go_wp2_with fail
  refine (len_any HH.out).mono ?_
  rintro e w' ⟨rfl, rfl⟩
  simp only [List.length_append, List.length_cons, List.length_nil, Nat.zero_add]
  go_wp2_with fail
  have hd2 := HH.out.d.put 3 (.int .i64 (L.length : Int))
  simp at hd2
  refine (take_any (p := (f + L.length) % C.length) (x := x) hd2 (HH.out.r.far (p := ⟨g, 3, none⟩) (fun e => hne e.symm) _) rfl HX.out.1 ?_ ?_ HH.out.b).mono ?_
  · have := HH.out.h.from_; have := HX.out; omega
  · have := HX.out; omega
  rintro e w2 ⟨rfl, d2, r2, m2⟩
  have H2 := Lib.hid (And.intro d2 (And.intro r2 m2))
  clear d2 r2 m2 hd2
  go_wp2_with fail
  go_ret2
  obtain ⟨hx, hh, hg, hgr, hc1, hc2, old, hsz⟩ := HX.out
  refine ⟨rfl, gr, _, f, ⟨by rw [List.length_set]; exact H2.out.1, H2.out.2.1, hh, by rw [List.length_set]; exact HH.out.b⟩, hg, hgr, by rw [List.length_set]; exact hc1, by rw [List.length_set]; exact hc2, ?_⟩
  exact (two_no old hg hgr (((Mod.refl (two g gr) w).set (p := ⟨g, 3, none⟩) (fun _ => .inl rfl) _).and_then (H2.out.2.2.mono (S' := two g gr) (fun _ _ c => .inr c))))

set_option maxRecDepth 100000 in
set_option maxHeartbeats 1000000 in
theorem pop_bottom {W w : World} {g : Nat} {L : List Int} {x : Int} (h : DS W w g (x :: L)) :
    Calls Try.prog 13 #[.pointer (some ⟨g, 0, none⟩)] w fun e w' => e = .returned (.tuple #[.int .i64 x, .bool true]) ∧ DS W w' g L := by
  obtain ⟨gr, C, f, H, hg, hgr, hc1, hc2, old⟩ := h
  have hne := H.ne
  obtain ⟨hx, hh⟩ := H.h.pop_bottom 0
  have hsz := H.h.size
  have hfr := H.h.from_
  simp at hsz
  have hnz : ¬ (L.length : Int) + 1 = 0 := by omega
  have hw64 : wrap64 (L.length : Int) = (L.length : Int) := IntWalk.wrap64_in _ (by omega)
  have HH := Lib.hid H
  have HX := Lib.hid (And.intro hx (And.intro hh (And.intro hg (And.intro hgr (And.intro hc1 (And.intro hc2 (And.intro old (And.intro hsz hfr))))))))
  clear H hx hh hg hgr hc1 hc2 old hsz hfr
  go_enter Try.func13, Try.ntmps13
  go_wp2_with fail
  refine (len_any HH.out).mono ?_
  rintro e w' ⟨rfl, rfl⟩
  simp only [List.length_cons]
  go_wp2_with fail
  refine (take_any (i := 0) (p := f) (x := x) HH.out.d HH.out.r ?_ HX.out.1 ?_ (by decide) HH.out.b).mono ?_
  · rw [Nat.add_zero, Nat.mod_eq_of_lt]; have := HX.out; omega
  · have := HX.out; omega
  rintro e w2 ⟨rfl, d2, r2, m2⟩
  have H2 := Lib.hid (And.intro d2 (And.intro r2 m2))
  clear d2 r2 m2
  go_wp2_with fail
  obtain ⟨p, hp⟩ : ∃ p, p = (f + 1) % C.length := ⟨_, rfl⟩
  have HP := Lib.hid hp
  clear hp
  refine (place_any (i := 1) HP.out H2.out.1 ?_ (by decide) ?_ ?_).mono ?_
  · have := HX.out; omega
  · have := HX.out; omega
  · have := HX.out; omega
  rintro e w3 ⟨rfl, n, hw3⟩
  have m3 : Mod no w2 w3 := by rw [hw3]; exact (Mod.refl no w2).drewN n
  have hd3 := H2.out.1.mod m3 (fun c => c)
  have c2 := hd3.cell 2
  have c3 := hd3.cell 3
  have f2 := hd3.free 2
  have f3 := hd3.free 3
  simp at c2 c3
  have H3 := Lib.hid (And.intro hd3 (And.intro (H2.out.2.1.mod m3 (fun c => c)) m3))
  clear hd3 m3 hw3
  go_wp2_with fail
  go_ret2
  obtain ⟨hx, hh, hg, hgr, hc1, hc2, old, hsz, hfr⟩ := HX.out
  have hd4 := (H3.out.1.put 2 (.int .i64 (p : Int))).put 3 (.int .i64 (L.length : Int))
  simp at hd4
  have hr4 := (H3.out.2.1.far (p := ⟨g, 2, none⟩) (fun e => hne e.symm) (.int .i64 (p : Int))).far (p := ⟨g, 3, none⟩) (fun e => hne e.symm) (.int .i64 (L.length : Int))
  refine ⟨rfl, gr, _, p, ⟨by rw [List.length_set]; exact hd4, hr4, by rw [HP.out]; exact hh, by rw [List.length_set]; exact HH.out.b⟩, hg, hgr, by rw [List.length_set]; exact hc1, by rw [List.length_set]; exact hc2, ?_⟩
  exact two_no old hg hgr ((((H2.out.2.2.mono (S' := two g gr) (fun _ _ c => .inr c)).and_then (H3.out.2.2.mono (S' := two g gr) (fun _ _ c => c.elim))).set (p := ⟨g, 2, none⟩) (fun _ => .inl rfl) _).set (p := ⟨g, 3, none⟩) (fun _ => .inl rfl) _)

set_option maxRecDepth 100000 in
theorem pop_none {W w : World} {g : Nat} (h : DS W w g []) :
    Calls Try.prog 12 #[.pointer (some ⟨g, 0, none⟩)] w fun e w' => e = .returned (.tuple #[.int .i64 0, .bool false]) ∧ w' = w := by
  obtain ⟨gr, C, f, H, _⟩ := h
  have HH := Lib.hid H
  clear H
  go_enter Try.func12, Try.ntmps12
  go_wp2_with fail
  refine (len_any HH.out).mono ?_
  rintro e w' ⟨rfl, rfl⟩
  go_wp2_with fail
  go_ret2
  exact ⟨rfl, rfl⟩

end Go.Proofs.Ytknbehjhaaidoaa.DI
