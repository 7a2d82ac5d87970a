/- The row with two ends, of ints: what puts. -/
import Derived.Test.YtknbehjhaaidoaaDqI
import Derived.OwnWalk
namespace Go.Proofs.Ytknbehjhaaidoaa.DI
open Go.RowKit Mem DQ
set_option linter.unusedVariables false
set_option linter.unusedSimpArgs false

/-- There is room. -/
def DR (W w : World) (g : Nat) (L : List Int) : Prop := ∃ gr C f, DqAt w g gr C f L ∧ W.heap.size ≤ g ∧ W.heap.size ≤ gr ∧ C.length ≤ 2097160 ∧ 8 ≤ C.length ∧ Mod no W w ∧ L.length < C.length

def RoomI (w : World) (gn : Nat) (L : List Int) (n : Nat) (i0 i : Value) (wr : World) : Prop :=
  ∃ k : Nat, k ≤ L.length ∧ i = .int .i64 (k : Int) ∧ Blk wr gn 3 ((grown L k n 0).map iv).toArray ∧ Mod (one gn) w wr

theorem int_info : (Try.prog.info? 3).map (fun i => (i.zero, i.size, i.bytes)) = some (some (.int .i64 0), 1, 8) := by kernel_rfl
theorem made_ints (n : Nat) : madeCells (Value.int .i64 0).cells (n * 1) = ((List.replicate n (0 : Int)).map iv).toArray := by
  rw [Nat.mul_one]
  apply Array.ext
  · simp [madeCells]
  · intro i h1 h2
    simp [madeCells, Value.cells, iv, Nat.mod_one]
theorem own_blk {w : World} {base g n : Nat} {e : TypeId} {xs : List Value} (h : w.ownsRow base e 1 (.slice (some ⟨g, 0, none⟩) n n) n xs) : Blk w g e xs.toArray := by
  rcases h.2 with ⟨hv, _⟩ | ⟨g', cap, cur, hv, _, hb, _, _, hcs, h4⟩
  · cases hv
  · injection hv with hv h5 h6
    injection hv with hv
    injection hv with hv
    subst hv h6
    have hb : Blk w g e cur := hb
    have : cur = xs.toArray := by
      apply Array.ext'
      rw [← h4, List.take_of_length_le (by simp; omega)]
    rw [← this]; exact hb

set_option maxRecDepth 100000 in
set_option maxHeartbeats 2000000 in
theorem room_any {W w : World} {g : Nat} {L : List Int} (h : DS W w g L) (hL : L.length ≤ 1048576) :
    Calls Try.prog 33 #[.pointer (some ⟨g, 0, none⟩)] w fun e w' => e = .returned (.tuple #[]) ∧ DR W w' g L := by
  obtain ⟨gr, C, f, H, hg, hgr, hc1, hc2, old⟩ := h
  have hne := H.ne
  have c1 := H.d.cell 1
  have c3 := H.d.cell 3
  simp at c1 c3
  by_cases hlt : L.length < C.length
  · have HH := Lib.hid H
    have HX := Lib.hid (And.intro hg (And.intro hgr (And.intro hc1 (And.intro hc2 (And.intro old hlt)))))
    clear H hg hgr hc1 hc2 old hL
    go_enter Try.func33, Try.ntmps33
    go_wp2_with fail
    go_quiet (fail)
    go_wp2_with fail
    refine bodyPost_ret (v := .tuple #[]) (results_none rfl _ _ _) rfl ?_
    obtain ⟨hg, hgr, hc1, hc2, old, hlt⟩ := HX.out
    have m1 := (Mod.refl no w).drewN nq
    exact ⟨rfl, gr, C, f, HH.out.mod m1 (fun c => c) (fun c => c), hg, hgr, hc1, hc2, old.and_then m1, hlt⟩
  · have hsz := H.h.size
    have hCL : C.length = L.length := by omega
    have hw2 : wrap64 (2 * (C.length : Int)) = 2 * (C.length : Int) := IntWalk.wrap64_in _ (by omega)
    have HW := Lib.hid (show wrap64 (2 * (C.length : Int)) = ((2 * C.length : Nat) : Int) by rw [hw2]; push_cast; rfl)
    have HH := Lib.hid H
    have HX := Lib.hid (And.intro hg (And.intro hgr (And.intro hc1 (And.intro hc2 (And.intro old (And.intro hL hCL))))))
    obtain ⟨i0, hi, hz0, hz1, hz2⟩ := info_parts int_info
    have HI0 := Lib.hid (And.intro hi (And.intro hz0 (And.intro hz1 hz2)))
    clear H hg hgr hc1 hc2 old hL hsz hCL hi hz0 hz1 hz2
    go_enter Try.func33, Try.ntmps33
    go_wp2_with fail
    go_quiet (fail)
    go_wp2_with (first
      | (at_make
         refine wpList_make_full _ rfl (.tmp 19) (.tmp 19) 22 rfl 0 3 i0 (.int .i64 0) 1 Try.underlying22 HI0.out.1 HI0.out.2.1 HI0.out.2.2.1 .i64 .i64 (wrap64 (2 * (C.length : Int))) (wrap64 (2 * (C.length : Int))) (2 * C.length) rfl rfl HW.out HW.out ?_ ?_ (Nat.zero_le _) ?_
         · rw [HI0.out.2.2.2]; have := HX.out; omega
         · have := HX.out; simp only [maxLen]; omega
         intro w1 hown hg1
         have hb1 := own_blk hown
         rw [made_ints] at hb1
         have hm1 : Mod no w w1 := ((Mod.refl no w).drewN nq).and_then (Mod.of_grown hg1 (fun _ _ e => by cases e))
         have hc3 := (HH.out.d.mod hm1 (fun c => c)).cell 3
         simp at hc3
         have H1 := Lib.hid (And.intro hb1 hm1)
         clear hown hg1 hb1 hm1))
    have hgl := HH.out.d.lt
    have hgrl := HH.out.r.lt
    have hn1 : w.heap.size ≠ g := by omega
    have hn2 : w.heap.size ≠ gr := by omega
    have hne' : gr ≠ g := fun e => hne e.symm
    go_loopw [3, 25] (RoomI w1 w.heap.size L (2 * C.length)) (fun _ i _ => L.length - (intOf i).toNat)
    case atStart => exact ⟨0, Nat.zero_le _, rfl, by rw [grown_0]; exact H1.out.1, Mod.refl _ _⟩
    case round =>
      obtain ⟨k, hk, rfl, hbk, M⟩ := hrel
      have hdr := (HH.out.d.mod H1.out.2 (fun c => c)).mod M (fun c => hn1 c.symm)
      have hrr := (HH.out.r.mod H1.out.2 (fun c => c)).mod M (fun c => hn2 c.symm)
      have d1 := hdr.cell 1
      have d2 := hdr.cell 2
      have d3 := hdr.cell 3
      have df1 := hdr.free 1
      have df2 := hdr.free 2
      simp at d1 d2 d3
      by_cases hkl : k < L.length
      · obtain ⟨x, hx⟩ : ∃ x, L[k]? = some x := ⟨_, List.getElem?_eq_getElem hkl⟩
        obtain ⟨p, hp⟩ : ∃ p, p = (f + k) % C.length := ⟨_, rfl⟩
        have hcx : C[p]? = some x := by rw [hp]; exact HH.out.h.at_ k x hx
        have hpl := (List.getElem?_eq_some_iff.1 hcx).1
        have sp := ring_cell hrr hcx
        obtain ⟨v, hv⟩ := ring_has (C := grown L k (2 * C.length) 0) (p := k) (by rw [grown_length _ _ _ _ hk (by have := HX.out; omega)]; have := HX.out; omega)
        have sk := ring_cell hbk hv
        have fk := hbk.free k
        have hk0 : (0 : Int) ≤ (k : Int) := by omega
        have hp0 : (0 : Int) ≤ (p : Int) := by omega
        have hpi : (p : Int) < (C.length : Int) := by omega
        have hkn : (k : Int) < 2 * (C.length : Int) := by have := HX.out; omega
        have hkL : (k : Int) < (L.length : Int) := by omega
        have HP := Lib.hid hp
        have HD := Lib.hid hdr
        have HB := Lib.hid (And.intro hbk (And.intro M (And.intro hx hkl)))
        have hfr := HH.out.h.from_
        have HF := Lib.hid (show f ≤ 10000000 ∧ k ≤ 10000000 ∧ 0 < C.length ∧ C.length ≤ 10000000 by have := HX.out; omega)
        have hw64 : wrap64 ((k : Int) + 1) = (k : Int) + 1 := IntWalk.wrap64_in _ (by have := HF.out; omega)
        clear hp hdr hrr hbk M hx hcx hpl hv hk hfr df1 df2 hkl
        go_wp2_with fail
        go_region_held3 (fun w' => w'.cell? ⟨g, 1, none⟩ = some (.slice (some ⟨gr, 0, none⟩) C.length C.length) ∧ w'.cell? ⟨gr, p, none⟩ = some (.int .i64 x)) (go_keep)
          (first | (go_at_call 34; refine (place_any HP.out (HD.out.drew) HF.out.1 HF.out.2.1 HF.out.2.2.1 HF.out.2.2.2).mono ?_; rintro e w' ⟨rfl, n, rfl⟩))
        go_wp2_with fail
        go_roundw
        case rel =>
          refine ⟨k + 1, HB.out.2.2.2, by go_num, ?_, (HB.out.2.1.drewN _).set (p := ⟨w.heap.size, k, none⟩) (fun _ => rfl) _⟩
          clear hw64
          have hb2 := (HB.out.1.drewN (1 + n)).put k (.int .i64 x)
          rw [ring_set, grown_set HB.out.2.2.1 (by have := HB.out.2.2.2; have := HX.out; omega)] at hb2
          exact hb2
        case measure =>
          try rw [hw64]
          clear hw64
          have := HB.out.2.2.2
          show L.length - ((k : Int) + 1).toNat < L.length - ((k : Int)).toNat
          omega
      · obtain rfl : k = L.length := by omega
        have hkL : ¬ (L.length : Int) < (L.length : Int) := by omega
        have HD := Lib.hid (And.intro hdr (And.intro hbk M))
        clear hdr hrr hbk M hk hkl
        go_wp2_with fail
        go_end0
        obtain ⟨hg, hgr, hc1, hc2, old, hL, hCL⟩ := HX.out
        obtain ⟨hdr, hbk, M⟩ := HD.out
        have hd4 := (hdr.put 1 (.slice (some ⟨w.heap.size, 0, none⟩) (2 * C.length) (2 * C.length))).put 2 (.int .i64 0)
        simp at hd4
        have hr4 := (hbk.far (p := ⟨g, 1, none⟩) hn1 (.slice (some ⟨w.heap.size, 0, none⟩) (2 * C.length) (2 * C.length))).far (p := ⟨g, 2, none⟩) hn1 (.int .i64 0)
        have hgl2 := grown_length L L.length (2 * C.length) 0 (Nat.le_refl _) (by omega)
        refine ⟨rfl, w.heap.size, grown L L.length (2 * C.length) 0, 0, ⟨by rw [hgl2]; exact hd4, hr4, HH.out.h.grown _ (by omega) 0, by rw [hgl2]; omega⟩, hg, by have := old.size; omega, by rw [hgl2]; omega, by rw [hgl2]; omega, ?_, by rw [hgl2]; omega⟩
        have m2 : Mod no w wr := H1.out.2.trans M fun b hb c => by have c : b = w.heap.size := c; omega
        have m3 : Mod no W wr := old.and_then m2
        exact (m3.set (p := ⟨g, 1, none⟩) (fun h => absurd h (by show ¬ g < _; omega)) _).set (p := ⟨g, 2, none⟩) (fun h => absurd h (by show ¬ g < _; omega)) _

set_option maxRecDepth 100000 in
set_option maxHeartbeats 2000000 in
theorem push_top {W w : World} {g : Nat} {L : List Int} (v : Int) (h : DS W w g L) (hL : L.length ≤ 1048576) :
    Calls Try.prog 9 #[.pointer (some ⟨g, 0, none⟩), .int .i64 v] w fun e w' => e = .returned (.tuple #[]) ∧ DS W w' g (L ++ [v]) := by
  obtain ⟨gr0, C0, f0, H0, _⟩ := id h
  have HD0 := Lib.hid H0.d
  have HS := Lib.hid h
  have HL := Lib.hid hL
  clear h hL H0
  go_enter Try.func9, Try.ntmps9
  go_wp2_with fail
  refine (there_any HD0.out).mono ?_
  rintro e w' ⟨rfl, rfl⟩
  go_wp2_with fail
  refine (room_any HS.out HL.out).mono ?_
  rintro e w2 ⟨rfl, gr, C, f, H, hg, hgr, hc1, hc2, old, hlt⟩
  have hne := H.ne
  have hne' : gr ≠ g := fun e => hne e.symm
  have c1 := H.d.cell 1
  have c3 := H.d.cell 3
  have f3 := H.d.free 3
  simp at c1 c3
  obtain ⟨p, hp⟩ : ∃ p, p = (f + L.length) % C.length := ⟨_, rfl⟩
  have hpl : p < C.length := by rw [hp]; exact place_lt H.h.from_
  obtain ⟨v0, hv0⟩ := ring_has hpl
  have sp := ring_cell H.r hv0
  have fp := H.r.free p
  have hp0 : (0 : Int) ≤ (p : Int) := by omega
  have hpi : (p : Int) < (C.length : Int) := by omega
  have hfr := H.h.from_
  have HF := Lib.hid (show f ≤ 10000000 ∧ L.length ≤ 10000000 ∧ 0 < C.length ∧ C.length ≤ 10000000 by have := HL.out; omega)
  have hw64 : wrap64 ((L.length : Int) + 1) = (L.length : Int) + 1 := IntWalk.wrap64_in _ (by have := HF.out; omega)
  have HP := Lib.hid hp
  have HH := Lib.hid H
  have HX := Lib.hid (And.intro hg (And.intro hgr (And.intro hc1 (And.intro hc2 (And.intro old hlt)))))
  clear H hg hgr hc1 hc2 old hlt hp hpl hv0 hfr
  go_wp2_with fail
  go_region_held3 (fun w' => w'.cell? ⟨g, 1, none⟩ = some (.slice (some ⟨gr, 0, none⟩) C.length C.length) ∧ w'.cell? ⟨g, 3, none⟩ = some (.int .i64 (L.length : Int))) (go_keep)
    (first | (go_at_call 34; refine (place_any HP.out (HH.out.d.drew) HF.out.1 HF.out.2.1 HF.out.2.2.1 HF.out.2.2.2).mono ?_; rintro e w' ⟨rfl, n, rfl⟩))
  have c3' : ((w2.drewN (1 + n)).setCell ⟨gr, p, none⟩ (.int .i64 v)).cell? ⟨g, 3, none⟩ = some (.int .i64 (L.length : Int)) := by
    rw [World.cell?_setCell_far _ _ _ _ hne']; exact c3
  have f3' : ((w2.drewN (1 + n)).setCell ⟨gr, p, none⟩ (.int .i64 v)).frozen? ⟨g, 3, none⟩ = false := by simpa using f3
  go_wp2_with fail
  go_end0
  obtain ⟨hg, hgr, hc1, hc2, old, hlt⟩ := HX.out
  have hd4 := (((HH.out.d.drewN (1 + n)).far (p := ⟨gr, p, none⟩) hne (.int .i64 v))).put 3 (.int .i64 ((L.length : Int) + 1))
  simp at hd4
  have hr4 := (((HH.out.r.drewN (1 + n)).put p (.int .i64 v))).far (p := ⟨g, 3, none⟩) hne' (.int .i64 ((L.length : Int) + 1))
  rw [ring_set] at hr4
  have hh := HH.out.h.push_top hlt v
  rw [← HP.out] at hh
  refine ⟨rfl, gr, C.set p v, f, ⟨?_, hr4, hh, by rw [List.length_set]; exact HH.out.b⟩, hg, hgr, by rw [List.length_set]; exact hc1, by rw [List.length_set]; exact hc2, ?_⟩
  · rw [List.length_set, List.length_append]
    exact hd4
  · exact two_no old hg hgr ((((Mod.refl (two g gr) w2).drewN (1 + n)).set (p := ⟨gr, p, none⟩) (fun _ => .inr rfl) _).set (p := ⟨g, 3, none⟩) (fun _ => .inl rfl) _)

set_option maxRecDepth 100000 in
set_option maxHeartbeats 2000000 in
theorem push_bottom {W w : World} {g : Nat} {L : List Int} (v : Int) (h : DS W w g L) (hL : L.length ≤ 1048576) :
    Calls Try.prog 8 #[.pointer (some ⟨g, 0, none⟩), .int .i64 v] w fun e w' => e = .returned (.tuple #[]) ∧ DS W w' g (v :: L) := by
  obtain ⟨gr0, C0, f0, H0, _⟩ := id h
  have HD0 := Lib.hid H0.d
  have HS := Lib.hid h
  have HL := Lib.hid hL
  clear h hL H0
  go_enter Try.func8, Try.ntmps8
  go_wp2_with fail
  refine (there_any HD0.out).mono ?_
  rintro e w' ⟨rfl, rfl⟩
  go_wp2_with fail
  refine (room_any HS.out HL.out).mono ?_
  rintro e w2 ⟨rfl, gr, C, f, H, hg, hgr, hc1, hc2, old, hlt⟩
  have hne := H.ne
  have hne' : gr ≠ g := fun e => hne e.symm
  have c1 := H.d.cell 1
  simp at c1
  obtain ⟨p, hp⟩ : ∃ p, p = (f + (C.length - 1)) % C.length := ⟨_, rfl⟩
  have hpl : p < C.length := by rw [hp]; exact place_lt H.h.from_
  have hfr := H.h.from_
  have HF := Lib.hid (show f ≤ 10000000 ∧ C.length - 1 ≤ 10000000 ∧ 0 < C.length ∧ C.length ≤ 10000000 by have := HL.out; omega)
  have hw1 : wrap64 ((C.length : Int) - 1) = ((C.length - 1 : Nat) : Int) := by rw [IntWalk.wrap64_in _ (by omega)]; omega
  have hw64 : wrap64 ((L.length : Int) + 1) = (L.length : Int) + 1 := IntWalk.wrap64_in _ (by have := HL.out; omega)
  have HP := Lib.hid hp
  have HH := Lib.hid H
  have HX := Lib.hid (And.intro hg (And.intro hgr (And.intro hc1 (And.intro hc2 (And.intro old (And.intro hlt hpl))))))
  have HPL := Lib.hid (And.intro (show (0 : Int) ≤ (p : Int) by omega) (show (p : Int) < (C.length : Int) by omega))
  clear H hg hgr hc1 hc2 old hlt hp hpl hfr
  go_wp2_with fail
  refine (place_any HP.out HH.out.d HF.out.1 HF.out.2.1 HF.out.2.2.1 HF.out.2.2.2).mono ?_
  rintro e w3 ⟨rfl, n, hw3⟩
  have m3 : Mod no w2 w3 := by rw [hw3]; exact (Mod.refl no w2).drewN n
  have hd3 := HH.out.d.mod m3 (fun c => c)
  have hr3 := HH.out.r.mod m3 (fun c => c)
  have c2 := hd3.cell 2
  have f2 := hd3.free 2
  simp at c2
  have H3 := Lib.hid (And.intro hd3 (And.intro hr3 m3))
  clear hd3 hr3 m3 hw3
  go_wp2_with fail
  have hd4 := H3.out.1.put 2 (.int .i64 (p : Int))
  simp at hd4
  have hr4 := H3.out.2.1.far (p := ⟨g, 2, none⟩) hne' (.int .i64 (p : Int))
  have m4 : Mod (two g gr) w2 (w3.setCell ⟨g, 2, none⟩ (.int .i64 (p : Int))) := (H3.out.2.2.mono (S' := two g gr) (fun _ _ c => c.elim)).set (p := ⟨g, 2, none⟩) (fun _ => .inl rfl) _
  clear c2 f2
  generalize w3.setCell ⟨g, 2, none⟩ (.int .i64 (p : Int)) = w4 at *
  have e1 := hd4.cell 1
  have e2 := hd4.cell 2
  have e3 := hd4.cell 3
  have g3 := hd4.free 3
  simp at e1 e2 e3
  obtain ⟨v0, hv0⟩ := ring_has HX.out.2.2.2.2.2.2
  have sp := ring_cell hr4 hv0
  have fp := hr4.free p
  obtain ⟨hp0, hpi⟩ := HPL.out
  have H4 := Lib.hid (And.intro hd4 (And.intro hr4 m4))
  clear hd4 hr4 m4 hv0 c1
  go_still_tail 10, (by kernel_rfl)
  change wpList _ _ _ _ _ w4.drew
  have e3' : (w4.drew.setCell ⟨gr, p, none⟩ (.int .i64 v)).cell? ⟨g, 3, none⟩ = some (.int .i64 (L.length : Int)) := by
    rw [World.cell?_setCell_far _ _ _ _ hne']; exact e3
  have g3' : (w4.drew.setCell ⟨gr, p, none⟩ (.int .i64 v)).frozen? ⟨g, 3, none⟩ = false := by simpa using g3
  go_wp2_with fail
  go_end0
  obtain ⟨hg, hgr, hc1, hc2, old, hlt, hpl⟩ := HX.out
  have hd5 := ((H4.out.1.drew.far (p := ⟨gr, p, none⟩) hne (.int .i64 v))).put 3 (.int .i64 ((L.length : Int) + 1))
  simp at hd5
  have hr5 := (H4.out.2.1.drew.put p (.int .i64 v)).far (p := ⟨g, 3, none⟩) hne' (.int .i64 ((L.length : Int) + 1))
  rw [ring_set] at hr5
  have hh := HH.out.h.push_bottom hlt v
  rw [← HP.out] at hh
  refine ⟨rfl, gr, C.set p v, p, ⟨?_, hr5, hh, by rw [List.length_set]; exact HH.out.b⟩, hg, hgr, by rw [List.length_set]; exact hc1, by rw [List.length_set]; exact hc2, ?_⟩
  · rw [List.length_set, List.length_cons]
    exact hd5
  · exact two_no old hg hgr ((H4.out.2.2.drew.set (p := ⟨gr, p, none⟩) (fun _ => .inr rfl) _).set (p := ⟨g, 3, none⟩) (fun _ => .inl rfl) _)

def TurnI (W : World) (g : Nat) (L : List Int) (m : Nat) (x y i : Value) (wr : World) : Prop :=
  ∃ k : Nat, k ≤ m ∧ i = .int .i64 (k : Int) ∧ DS W wr g (rot L k)

theorem tmod_turn (n : Int) (R : Nat) (hR : 0 < R) : (n.tmod (R : Int) < 0 → n.tmod (R : Int) + (R : Int) = (turnK n R : Int)) ∧ (¬ n.tmod (R : Int) < 0 → n.tmod (R : Int) = (turnK n R : Int)) := by
  have h3 : ((turnK n R : Nat) : Int) = n % (R : Int) := by
    unfold turnK
    exact Int.toNat_of_nonneg (Int.emod_nonneg n (by omega))
  have h1 := Int.emod_nonneg n (b := (R : Int)) (by omega)
  have h2 := Int.emod_lt_of_pos n (b := (R : Int)) (by omega)
  rw [h3]
  have h4 := @Int.tmod_eq_emod n (R : Int)
  split at h4
  · exact ⟨fun h => by omega, fun h => by omega⟩
  · rw [Int.natAbs_natCast] at h4
    exact ⟨fun h => by omega, fun h => by omega⟩

set_option maxRecDepth 100000 in
set_option maxHeartbeats 2000000 in
theorem turn_any {W w : World} {g : Nat} {L : List Int} (n : Int) (h : DS W w g L) (hL : L.length ≤ 1048576) (hn1 : -9223372036854775808 ≤ n) (hn2 : n ≤ 9223372036854775807) :
    Calls Try.prog 10 #[.pointer (some ⟨g, 0, none⟩), .int .i64 n] w fun e w' => e = .returned (.tuple #[]) ∧ DS W w' g (rot L (turnK n L.length)) := by
  obtain ⟨gr, C, f, H, hrest⟩ := id h
  have c3 := H.d.cell 3
  simp at c3
  have HS := Lib.hid h
  have HH := Lib.hid H
  have HN := Lib.hid (And.intro hL (And.intro hn1 hn2))
  clear h H hrest hL hn1 hn2
  by_cases h0 : L.length = 0
  · have hl0 := List.eq_nil_of_length_eq_zero h0
    subst hl0
    go_enter Try.func10, Try.ntmps10
    go_wp2_with fail
    refine (len_any HH.out).mono ?_
    rintro e w' ⟨rfl, rfl⟩
    go_wp2_with fail
    refine bodyPost_ret (v := .tuple #[]) (results_none rfl _ _ _) rfl ?_
    exact ⟨rfl, by simpa [rot] using HS.out⟩
  · have hT := tmod_turn n L.length (by omega)
    have hK := turnK_lt n (show 0 < L.length by omega)
    obtain ⟨K, hKK⟩ : ∃ K, K = turnK n L.length := ⟨_, rfl⟩
    rw [← hKK] at hT hK ⊢
    have HK := Lib.hid (And.intro hK (show L.length ≤ 1048576 from HN.out.1))
    have hwK : wrap64 (K : Int) = (K : Int) := IntWalk.wrap64_in _ (by have := HK.out; omega)
    have hnz : ¬ (L.length : Int) = 0 := by omega
    by_cases hneg : n.tmod (L.length : Int) < 0
    · have he : n.tmod (L.length : Int) = (K : Int) - (L.length : Int) := by have := hT.1 hneg; omega
      have hlt : (K : Int) < (L.length : Int) := by omega
      have q1 : ((L.length : Int) == 0) = false := by simpa using h0
      have q2 : decide ((K : Int) - (L.length : Int) < 0) = true := by rw [decide_eq_true_eq]; omega
      clear hneg hT hKK hK
      go_enter Try.func10, Try.ntmps10
      go_wp2_with fail
      refine (len_any HH.out).mono ?_
      rintro e w' ⟨rfl, rfl⟩
      go_wp2_with fail
      try simp only [q1, q2, hwK]
      go_loopw [4, 5, 24] (TurnI W g L K) (fun _ _ i _ => K - (intOf i).toNat)
      case atStart => exact ⟨0, Nat.zero_le _, rfl, by rw [rot_0]; exact HS.out⟩
      case round =>
        obtain ⟨k, hk, rfl, hS⟩ := hrel
        by_cases hkl : k < K
        · obtain ⟨x, hx⟩ : ∃ x, L[k]? = some x := ⟨_, List.getElem?_eq_getElem (by have := HK.out; omega)⟩
          obtain ⟨e1, e2⟩ := rot_step hx
          rw [e1] at hS
          have HS1 := Lib.hid hS
          have HE := Lib.hid (And.intro e2 hkl)
          have hkk : (k : Int) < (K : Int) := by omega
          have hle : (L.drop (k + 1) ++ L.take k).length ≤ 1048576 := by have := HK.out; simp; omega
          have HLE := Lib.hid hle
          have hw64 : wrap64 ((k : Int) + 1) = (k : Int) + 1 := IntWalk.wrap64_in _ (by have := HK.out; omega)
          clear hS e1 e2 hx hkl hk hle
          go_wp2_with fail
          refine (pop_bottom HS1.out).mono ?_
          rintro e w2 ⟨rfl, S2⟩
          have HS2 := Lib.hid S2
          clear S2
          go_wp2_with fail
          refine (push_top x HS2.out HLE.out).mono ?_
          rintro e w3 ⟨rfl, S3⟩
          rw [← HE.out.1] at S3
          have HS3 := Lib.hid S3
          clear S3
          go_wp2_with fail
          go_roundw
          case rel =>
            exact ⟨k + 1, HE.out.2, by go_num, HS3.out⟩
          case measure =>
            try rw [hw64]
            clear hw64
            have := HE.out.2
            show K - ((k : Int) + 1).toNat < K - ((k : Int)).toNat
            omega
        · obtain rfl : k = K := by omega
          have HS1 := Lib.hid hS
          have hkk : ¬ (k : Int) < (k : Int) := by omega
          clear hS hk hkl
          go_wp2_with fail
          go_end0
          exact ⟨rfl, HS1.out⟩
    · have he : n.tmod (L.length : Int) = (K : Int) := hT.2 hneg
      have q1 : ((L.length : Int) == 0) = false := by simpa using h0
      have q2 : decide ((K : Int) < 0) = false := by rw [decide_eq_false_iff_not]; omega
      clear hneg hT hKK hK
      go_enter Try.func10, Try.ntmps10
      go_wp2_with fail
      refine (len_any HH.out).mono ?_
      rintro e w' ⟨rfl, rfl⟩
      go_wp2_with fail
      try simp only [q1, q2, hwK]
      go_loopw [4, 5, 24] (TurnI W g L K) (fun _ _ i _ => K - (intOf i).toNat)
      case atStart => exact ⟨0, Nat.zero_le _, rfl, by rw [rot_0]; exact HS.out⟩
      case round =>
        obtain ⟨k, hk, rfl, hS⟩ := hrel
        by_cases hkl : k < K
        · obtain ⟨x, hx⟩ : ∃ x, L[k]? = some x := ⟨_, List.getElem?_eq_getElem (by have := HK.out; omega)⟩
          obtain ⟨e1, e2⟩ := rot_step hx
          rw [e1] at hS
          have HS1 := Lib.hid hS
          have HE := Lib.hid (And.intro e2 hkl)
          have hkk : (k : Int) < (K : Int) := by omega
          have hle : (L.drop (k + 1) ++ L.take k).length ≤ 1048576 := by have := HK.out; simp; omega
          have HLE := Lib.hid hle
          have hw64 : wrap64 ((k : Int) + 1) = (k : Int) + 1 := IntWalk.wrap64_in _ (by have := HK.out; omega)
          clear hS e1 e2 hx hkl hk hle
          go_wp2_with fail
          refine (pop_bottom HS1.out).mono ?_
          rintro e w2 ⟨rfl, S2⟩
          have HS2 := Lib.hid S2
          clear S2
          go_wp2_with fail
          refine (push_top x HS2.out HLE.out).mono ?_
          rintro e w3 ⟨rfl, S3⟩
          rw [← HE.out.1] at S3
          have HS3 := Lib.hid S3
          clear S3
          go_wp2_with fail
          go_roundw
          case rel =>
            exact ⟨k + 1, HE.out.2, by go_num, HS3.out⟩
          case measure =>
            try rw [hw64]
            clear hw64
            have := HE.out.2
            show K - ((k : Int) + 1).toNat < K - ((k : Int)).toNat
            omega
        · obtain rfl : k = K := by omega
          have HS1 := Lib.hid hS
          have hkk : ¬ (k : Int) < (k : Int) := by omega
          clear hS hk hkl
          go_wp2_with fail
          go_end0
          exact ⟨rfl, HS1.out⟩

end Go.Proofs.Ytknbehjhaaidoaa.DI
