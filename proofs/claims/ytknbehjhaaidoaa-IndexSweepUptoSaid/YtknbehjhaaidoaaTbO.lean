/- What Put and Del make of a table, in plain Lean. No program. -/
import Derived.Test.YtknbehjhaaidoaaTbN
namespace Go.Proofs.Ytknbehjhaaidoaa.TB
set_option linter.unusedVariables false
set_option linter.unusedSimpArgs false

section
variable {K V : Type} {hash : K → Nat} {s n : Nat} {t : Tab K V}
theorem WF.room (h : WF hash (s + 1) t) : (ents t.y).length + tombs t.y < t.y.length := by have := h.cap; omega
theorem WF.still (h : WF hash 0 t) (ho : t.o = none) (hc : 4 * ((ents t.y).length + tombs t.y) ≤ 3 * t.y.length) : WF hash 1 t := by
  refine ⟨h.py, h.oky, h.nk, ?_, h.non, h.old⟩
  have := h.py.bd
  have := h.cap
  rw [ho] at this ⊢
  have e1 : (oents (none : Option (List (Slot K V)))).length = 0 := rfl
  have e2 : rest (none : Option (List (Slot K V))) t.m = 0 := rfl
  omega
theorem WF.grown (h : WF hash 0 t) (ho : t.o = none) {n' : Nat} (hp : Pow n') (h1 : t.y.length ≤ n') (h2 : 2 * t.L.length + 2 ≤ n') : WF hash 1 ⟨List.replicate n' .empty, some t.y, 0⟩ ∧ (⟨List.replicate n' .empty, some t.y, 0⟩ : Tab K V).L = t.L := by
  have hL : (⟨List.replicate n' .empty, some t.y, 0⟩ : Tab K V).L = t.L := by
    unfold Tab.L
    rw [ho]
    show ents t.y ++ ents (List.replicate n' (.empty : Slot K V)) = oents none ++ ents t.y
    rw [ents_new, List.append_nil]
    rfl
  have hb := h.py.bd
  have hb2 := hp.bd
  refine ⟨⟨by show Pow (List.replicate n' (.empty : Slot K V)).length; rw [List.length_replicate]; exact hp, Ok.new n', by rw [hL]; exact h.nk, ?_, fun c => (nomatch c), fun l hl => ?_⟩, hL⟩
  · have hl : t.L.length = (ents t.y).length := by
      unfold Tab.L
      rw [ho]
      rfl
    show (ents (List.replicate n' (.empty : Slot K V))).length + tombs (List.replicate n' (.empty : Slot K V)) + (ents t.y).length + (t.y.length - 0) / 8 + 1 ≤ (List.replicate n' (.empty : Slot K V)).length
    rw [ents_new, tombs_new, List.length_replicate, List.length_nil]
    omega
  · injection hl with hl
    subst hl
    exact ⟨h.py, h.oky, by show 0 < _; omega, rfl, fun j k v hj => by exact absurd hj (Nat.not_lt_zero _)⟩
end
section
variable {K V : Type} [DecidableEq K] {hash : K → Nat} {s n : Nat} {t : Tab K V} {k : K} {v v0 : V}
theorem less_cons (L : List (K × V)) (k : K) (v : V) : less ((k, v) :: L) k = less L k := by
  unfold less
  rw [List.filter_cons, if_neg (by simp)]
/-- A row out of which one pair was taken. -/
theorem less_of {L L' : List (K × V)} (hn : NK L) (p : ((k, v0) :: L').Perm L) : L'.Perm (less L k) := by
  have h1 : (k, v0) ∈ L := p.mem_iff.1 (by simp)
  exact ((p.trans (less_yes hn h1))).cons_inv
theorem WF.buryY (h : WF hash s t) (hn : t.y[n]? = some (.full k v0)) : WF hash s ⟨t.y.set n .tomb, t.o, t.m⟩ ∧ (⟨t.y.set n .tomb, t.o, t.m⟩ : Tab K V).L.Perm (less t.L k) := by
  have hp := ents_set t.y n (.full k v0) .tomb hn
  have hl := ents_len_set (y := .tomb) hn
  have ht := tombs_set t.y n (.full k v0) .tomb hn
  simp only [Slot.ent, Option.toList_some, Option.toList_none, List.length_cons, List.length_nil] at hl
  simp only [Slot.isTomb, Bool.toNat_false, Bool.toNat_true] at ht
  have hL : ((k, v0) :: (⟨t.y.set n .tomb, t.o, t.m⟩ : Tab K V).L).Perm t.L := by
    show ((k, v0) :: (oents t.o ++ ents (t.y.set n .tomb))).Perm (oents t.o ++ ents t.y)
    exact List.perm_middle.symm.trans (List.Perm.append_left _ hp)
  have hL2 := less_of h.nk hL
  refine ⟨⟨by show Pow (t.y.set n .tomb).length; rw [List.length_set]; exact h.py, h.oky.bury, (h.nk.less k).perm hL2.symm, ?_, h.non, h.old⟩, hL2⟩
  have := h.cap
  show (ents (t.y.set n .tomb)).length + tombs (t.y.set n .tomb) + (oents t.o).length + rest t.o t.m + s ≤ (t.y.set n .tomb).length
  rw [List.length_set]
  omega
theorem WF.buryO {l : List (Slot K V)} (h : WF hash s t) (ho : t.o = some l) (hn : l[n]? = some (.full k v0)) : WF hash (s + 1) ⟨t.y, some (l.set n .tomb), t.m⟩ ∧ (⟨t.y, some (l.set n .tomb), t.m⟩ : Tab K V).L.Perm (less t.L k) := by
  have hp := ents_set l n (.full k v0) .tomb hn
  have hl := ents_len_set (y := .tomb) hn
  simp only [Slot.ent, Option.toList_some, Option.toList_none, List.length_cons, List.length_nil] at hl
  obtain ⟨h1, h2, h3, h4, h5⟩ := h.old l ho
  have hL : ((k, v0) :: (⟨t.y, some (l.set n .tomb), t.m⟩ : Tab K V).L).Perm t.L := by
    unfold Tab.L
    rw [ho]
    show ((k, v0) :: (ents (l.set n .tomb) ++ ents t.y)).Perm (ents l ++ ents t.y)
    rw [← List.cons_append]
    exact List.Perm.append_right _ hp
  have hL2 := less_of h.nk hL
  refine ⟨⟨h.py, h.oky, (h.nk.less k).perm hL2.symm, ?_, fun c => (nomatch c), fun l' hl' => ?_⟩, hL2⟩
  · have hc := h.cap
    rw [ho] at hc
    have e1 : (oents (some l)).length = (ents l).length := rfl
    have e2 : rest (some l) t.m = (l.length - t.m) / 8 := rfl
    show (ents t.y).length + tombs t.y + (ents (l.set n .tomb)).length + ((l.set n .tomb).length - t.m) / 8 + (s + 1) ≤ t.y.length
    rw [List.length_set]
    omega
  · injection hl' with hl'
    subst hl'
    exact ⟨by rw [List.length_set]; exact h1, h2.bury, by show t.m < _; rw [List.length_set]; exact h3, h4, fun j k' v' hj hx => h5 j k' v' hj (set_tomb hx).2⟩
theorem WF.replace (h : WF hash s t) (hn : t.y[n]? = some (.full k v0)) (v : V) : WF hash s ⟨t.y.set n (.full k v), t.o, t.m⟩ ∧ (⟨t.y.set n (.full k v), t.o, t.m⟩ : Tab K V).L.Perm ((k, v) :: less t.L k) := by
  have hp := ents_set t.y n (.full k v0) (.full k v) hn
  have hl := ents_len_set (y := .full k v) hn
  have ht := tombs_set t.y n (.full k v0) (.full k v) hn
  simp only [Slot.ent, Option.toList_some, List.length_cons, List.length_nil] at hl
  simp only [Slot.isTomb, Bool.toNat_false] at ht
  have hL : ((k, v0) :: (⟨t.y.set n (.full k v), t.o, t.m⟩ : Tab K V).L).Perm ((k, v) :: t.L) := by
    show ((k, v0) :: (oents t.o ++ ents (t.y.set n (.full k v)))).Perm ((k, v) :: (oents t.o ++ ents t.y))
    exact List.perm_middle.symm.trans ((List.Perm.append_left _ hp).trans List.perm_middle)
  have hmem : (k, v0) ∈ t.L := by
    unfold Tab.L
    exact List.mem_append_right _ (mem_ents.2 ⟨n, hn⟩)
  have hL2 : (⟨t.y.set n (.full k v), t.o, t.m⟩ : Tab K V).L.Perm ((k, v) :: less t.L k) :=
    (hL.trans (((less_yes h.nk hmem).cons (k, v)).trans (List.Perm.swap _ _ _))).cons_inv
  obtain ⟨e, he, hw⟩ := h.oky n k v0 hn
  refine ⟨⟨by show Pow (t.y.set n (.full k v)).length; rw [List.length_set]; exact h.py, h.oky.lay ⟨e, he, hw⟩, (h.nk.put k v).perm hL2.symm, ?_, h.non, h.old⟩, hL2⟩
  have := h.cap
  show (ents (t.y.set n (.full k v))).length + tombs (t.y.set n (.full k v)) + (oents t.o).length + rest t.o t.m + s ≤ (t.y.set n (.full k v)).length
  rw [List.length_set]
  omega
theorem WF.lay (h : WF hash (s + 1) t) (hk : ∀ v, (k, v) ∉ t.L) (v : V) : WF hash s ⟨TB.lay hash t.y k v, t.o, t.m⟩ ∧ (⟨TB.lay hash t.y k v, t.o, t.m⟩ : Tab K V).L.Perm ((k, v) :: t.L) := by
  have hky : ∀ v, (k, v) ∉ ents t.y := fun v hv => hk v (by unfold Tab.L; exact List.mem_append_right _ hv)
  obtain ⟨g, d, x, h1, h2, h3, h4, h5, h6, h7, h8, h9⟩ := lay_is (v := v) h.oky hky h.room
  have hL : (⟨TB.lay hash t.y k v, t.o, t.m⟩ : Tab K V).L.Perm ((k, v) :: t.L) := by
    show (oents t.o ++ ents (TB.lay hash t.y k v)).Perm ((k, v) :: (oents t.o ++ ents t.y))
    exact (List.Perm.append_left _ h6).trans List.perm_middle
  refine ⟨⟨by show Pow (TB.lay hash t.y k v).length; rw [h9]; exact h.py, h5, ?_, ?_, h.non, h.old⟩, hL⟩
  · have hn := h.nk.put k v
    rw [less_no hk] at hn
    exact hn.perm hL.symm
  · have := h.cap
    show (ents (TB.lay hash t.y k v)).length + tombs (TB.lay hash t.y k v) + (oents t.o).length + rest t.o t.m + s ≤ (TB.lay hash t.y k v).length
    rw [h9]
    omega
end
end Go.Proofs.Ytknbehjhaaidoaa.TB
