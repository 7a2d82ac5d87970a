/- The document's list of entries: its copies (printed by greydoc.py). -/
import Derived.Test.YtknbehjhaaidoaaDgY
namespace Go.Proofs.Ytknbehjhaaidoaa.DG
open Go.RowKit Mem DQ
set_option linter.unusedVariables false
set_option linter.unusedSimpArgs false

/-- The slice (A, how many) holds the entries L, wherever it lies. -/
structure Src (w : World) (A : Option Addr) (L : List (List Value)) : Prop where
  at_ : 0 < L.length → ∃ b o, A = some ⟨b, o, none⟩ ∧ b < w.heap.size ∧ ∀ k x, L[k]? = some x → w.rangeAt b (o + k * 33) x
  e : ∀ x ∈ L, Ele x
theorem Src.nil (w : World) (A : Option Addr) : Src w A [] := ⟨fun h => absurd h (by simp), fun x hx => by simp at hx⟩
theorem Src.mod {S : Nat → Prop} {w w' : World} {A : Option Addr} {L : List (List Value)} (h : Src w A L) (hm : Mod S w w') (hn : ∀ b o, A = some ⟨b, o, none⟩ → ¬ S b) : Src w' A L := by
  refine ⟨fun hl => ?_, h.e⟩
  obtain ⟨b, o, rfl, hb, hr⟩ := h.at_ hl
  refine ⟨b, o, rfl, Nat.lt_of_lt_of_le hb hm.size, fun k x hx j u hu => ?_⟩
  rw [hm.cell hb (hn b o rfl)]
  exact hr k x hx j u hu
theorem Src.mod_no {w w' : World} {A : Option Addr} {L : List (List Value)} (h : Src w A L) (hm : Mod no w w') : Src w' A L := h.mod hm fun _ _ _ c => c
theorem Src.own {w : World} {base : Nat} {v : Value} {L : List (List Value)} (h : w.ownsRow base 89 33 v L.length L.flatten) (he : ∀ x ∈ L, Ele x) : ∃ A c, v = .slice A L.length c ∧ Src w A L ∧ (∀ b o, A = some ⟨b, o, none⟩ → base ≤ b ∧ o = 0) ∧ L.length ≤ c := by
  rcases h.2 with ⟨h1, h2⟩ | ⟨g, cap, cur, h1, h2, h3, h4, h5, h6, h7⟩
  · have h0 := List.eq_nil_of_length_eq_zero h2
    subst h0
    exact ⟨none, 0, h1, Src.nil w _, (fun b o e => by cases e), Nat.le_refl _⟩
  · refine ⟨_, cap, h1, ⟨fun hl => ⟨g, 0, rfl, Blk.lt (show Blk w g 89 cur from h3), fun k x hx j u hu => ?_⟩, he⟩, fun b o e => ?_, h4⟩
    · have hb : Blk w g 89 cur := h3
      have hj := flat_get L k x (fun y hy => (he y hy).1) hx j u hu
      rw [← h7] at hj
      rw [hb.cell, Nat.zero_add, ← Array.getElem?_toList]
      rw [List.getElem?_take] at hj
      split at hj
      · exact hj
      · cases hj
    · injection e with e
      injection e with e1 e2
      exact ⟨by omega, e2.symm⟩
theorem Src.tail {w : World} {b o : Nat} {x : List Value} {L : List (List Value)} (h : Src w (some ⟨b, o, none⟩) (x :: L)) : Src w (some ⟨b, o + 33, none⟩) L := by
  refine ⟨fun hl => ?_, fun y hy => h.e y (by simp [hy])⟩
  obtain ⟨b', o', e, hb, hr⟩ := h.at_ (by simp)
  injection e with e
  injection e with e1 e2
  subst e1 e2
  refine ⟨b, o + 33, rfl, hb, fun k y hy => ?_⟩
  have := hr (k + 1) y (by simpa using hy)
  rw [show o + (k + 1) * 33 = o + 33 + k * 33 by omega] at this
  exact this
theorem Src.init {w : World} {A : Option Addr} {x : List Value} {L : List (List Value)} (h : Src w A (L ++ [x])) : Src w A L := by
  refine ⟨fun hl => ?_, fun y hy => h.e y (by simp [hy])⟩
  obtain ⟨b', o', e, hb, hr⟩ := h.at_ (by simp)
  exact ⟨b', o', e, hb, fun k y hy => hr k y (by rw [List.getElem?_append_left (List.getElem?_eq_some_iff.1 hy).1]; exact hy)⟩

def CopI (w : World) (L : List (List Value)) (v i : Value) (wr : World) : Prop :=
  ∃ k : Nat, k ≤ L.length ∧ i = .int .i64 (k : Int) ∧ wr.ownsRow w.heap.size 89 33 v k (L.take k).flatten ∧ Mod no w wr

set_option maxRecDepth 100000 in
set_option maxHeartbeats 4000000 in
theorem greys_any {w : World} {A : Option Addr} {c : Nat} {L : List (List Value)} (h : Src w A L) (hL : L.length ≤ 1048600) :
    Calls Try.prog 76 #[.slice A L.length c] w fun e w' => ∃ v, e = .returned v ∧ w'.ownsRow w.heap.size 89 33 v L.length L.flatten ∧ Mod no w w' := by
  have H0 := Lib.hid h
  have HL := Lib.hid hL
  clear h hL
  go_enter Try.func76, Try.ntmps76
  go_wp2_with fail
  go_loopw [3, 4] (CopI w L) (fun _ i _ => L.length - (intOf i).toNat)
  case atStart => exact ⟨0, Nat.zero_le _, rfl, ⟨by simp, .inl ⟨rfl, rfl⟩⟩, Mod.refl _ _⟩
  case round =>
    obtain ⟨k, hk, rfl, hown, M⟩ := hrel
    by_cases hkl : k < L.length
    · obtain ⟨b, o, rfl, hb, hr⟩ := H0.out.at_ (by omega)
      obtain ⟨x, hx⟩ : ∃ x, L[k]? = some x := ⟨_, List.getElem?_eq_getElem hkl⟩
      have hel := H0.out.e x (List.mem_of_getElem? hx)
      have hkL : (k : Int) < (L.length : Int) := by omega
      have hw64 : wrap64 ((k : Int) + 1) = (k : Int) + 1 := IntWalk.wrap64_in _ (by have := HL.out; omega)
      have hrg : wr.rangeAt b (o + k * 33) x := fun j u hu => by rw [M.cell hb (fun c => c)]; exact hr k x hx j u hu
      have m4 : Mod no wr (wr.alloc (.cells x.toArray 89)) := (Mod.refl no wr).alloc _
      have HB := Lib.hid (And.intro hown (And.intro M (And.intro hx (And.intro hkl (And.intro hel hrg)))))
      have H4 := Lib.hid (And.intro (own_mod33 hown m4 (fun _ _ _ c => c)) (And.intro (M.and_then m4) (Blk.new wr 89 x.toArray)))
      clear hown M hx hk hel hrg hr m4
      go_wp2_with (first
        | (refine wpList_load_mid rfl 89 (.tmp 14) rfl b (o + k * 33) rfl x _ HB.out.2.2.2.2.2 Try.underlying89 rfl (grey_info HB.out.2.2.2.2.1.1) ?_)
        | (refine wpList_one rfl (.tmp 15) rfl x rfl HB.out.2.2.2.2.1 ?_
           generalize wr.alloc (.cells x.toArray 89) = w4 at *)
        | (refine wpList_app rfl (.tmp 11) (.tmp 16) rfl w.heap.size k wr.heap.size u3 _ x rfl rfl H4.out.1 H4.out.2.2 HB.out.2.2.2.2.1 (by have := HL.out; have := HB.out.2.2.2.1; omega) H4.out.2.1.size ?_
           intro v' w5 hown5 hg5 hat5
           have H5 := Lib.hid (And.intro hown5 (app_mod H4.out.1 hg5 (Nat.le_refl _) H4.out.2.1))
           clear hown5 hg5 hat5))
      go_roundw
      case rel =>
        refine ⟨k + 1, HB.out.2.2.2.1, by go_num, ?_, H5.out.2⟩
        rw [List.take_add_one, HB.out.2.2.1, List.flatten_append]
        simpa using H5.out.1
      case measure =>
        try rw [hw64]
        clear hw64
        have := HB.out.2.2.2.1
        show L.length - ((k : Int) + 1).toNat < L.length - ((k : Int)).toNat
        omega
    · obtain rfl : k = L.length := by omega
      have hkL : ¬ (L.length : Int) < (L.length : Int) := by omega
      rw [List.take_length] at hown
      have HB := Lib.hid (And.intro hown M)
      clear hown M hk hkl
      go_wp2_with fail
      go_ret
      exact ⟨_, rfl, HB.out.1, HB.out.2⟩

end Go.Proofs.Ytknbehjhaaidoaa.DG
