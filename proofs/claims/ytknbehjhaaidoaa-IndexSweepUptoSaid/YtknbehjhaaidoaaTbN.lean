/- A table that grows step by step, in plain Lean: its step, its Put and Del. No program. -/
import Derived.Test.YtknbehjhaaidoaaTbM
namespace Go.Proofs.Ytknbehjhaaidoaa.TB
set_option linter.unusedVariables false
set_option linter.unusedSimpArgs false

/-- A table: its younger slots, its elder ones, how many of these were gone through. -/
structure Tab (K V : Type) where
  y : List (Slot K V)
  o : Option (List (Slot K V))
  m : Nat

section
variable {K V : Type}
def oents (o : Option (List (Slot K V))) : List (K × V) := (o.map ents).getD []
/-- All pairs, as All goes through them. -/
def Tab.L (t : Tab K V) : List (K × V) := oents t.o ++ ents t.y
/-- A size. -/
def Pow (n : Nat) : Prop := ∃ e, 3 ≤ e ∧ e ≤ 40 ∧ n = 2 ^ e
theorem Pow.bd {n : Nat} (h : Pow n) : 8 ≤ n ∧ n ≤ 1099511627776 ∧ n % 8 = 0 := by
  obtain ⟨e, h1, h2, rfl⟩ := h
  obtain ⟨d, rfl⟩ : ∃ d, e = d + 3 := ⟨e - 3, by omega⟩
  have h3 : 2 ^ (d + 3) ≤ 2 ^ 40 := Nat.pow_le_pow_right (by decide) h2
  have h4 : 1 ≤ 2 ^ d := Nat.one_le_two_pow
  rw [Nat.pow_succ, Nat.pow_succ, Nat.pow_succ] at h3 ⊢
  omega
theorem Pow.new : Pow 8 := ⟨3, by decide, by decide, rfl⟩
/-- What is left to be gone through, in steps. -/
def rest (o : Option (List (Slot K V))) (m : Nat) : Nat := match o with
  | none => 0
  | some l => (l.length - m) / 8
/-- The table is whole, with s slots to spare. -/
structure WF (hash : K → Nat) (s : Nat) (t : Tab K V) : Prop where
  py : Pow t.y.length
  oky : Ok hash t.y
  nk : NK t.L
  cap : (ents t.y).length + tombs t.y + (oents t.o).length + rest t.o t.m + s ≤ t.y.length
  non : t.o = none → t.m = 0
  old : ∀ l, t.o = some l → Pow l.length ∧ Ok hash l ∧ t.m < l.length ∧ t.m % 8 = 0 ∧ ∀ (j : Nat) (k : K) (v : V), j < t.m → l[j]? ≠ some (.full k v)
theorem WF.less_s {hash : K → Nat} {s s' : Nat} {t : Tab K V} (h : WF hash s t) (hs : s' ≤ s) : WF hash s' t := ⟨h.py, h.oky, h.nk, by have := h.cap; omega, h.non, h.old⟩
theorem NK.left {L L' : List (K × V)} (h : NK (L ++ L')) : NK L := by
  unfold NK at h ⊢
  rw [List.map_append] at h
  exact (List.nodup_append.1 h).1
theorem NK.right {L L' : List (K × V)} (h : NK (L ++ L')) : NK L' := by
  unfold NK at h ⊢
  rw [List.map_append] at h
  exact (List.nodup_append.1 h).2.1
theorem NK.apart {L L' : List (K × V)} (h : NK (L ++ L')) {k : K} {v v' : V} (h1 : (k, v) ∈ L) (h2 : (k, v') ∈ L') : False := by
  unfold NK at h
  rw [List.map_append] at h
  exact (List.nodup_append.1 h).2.2 k (List.mem_map.2 ⟨_, h1, rfl⟩) k (List.mem_map.2 ⟨_, h2, rfl⟩) rfl

theorem set_tomb {l : List (Slot K V)} {g j : Nat} {k : K} {v : V} (h : (l.set g .tomb)[j]? = some (.full k v)) : g ≠ j ∧ l[j]? = some (.full k v) := by
  by_cases e : g = j
  · exfalso
    subst e
    have h1 := (List.getElem?_eq_some_iff.1 h).1
    rw [List.length_set] at h1
    rw [List.getElem?_set_self h1] at h
    cases h
  · rw [List.getElem?_set_ne e] at h
    exact ⟨e, h⟩
theorem new_wf (hash : K → Nat) : WF hash 1 (⟨List.replicate 8 .empty, none, 0⟩ : Tab K V) :=
  ⟨by rw [List.length_replicate]; exact Pow.new, Ok.new 8, by
    show NK (oents none ++ ents (List.replicate 8 (.empty : Slot K V)))
    rw [ents_new]
    exact List.nodup_nil, by
    show (ents (List.replicate 8 (.empty : Slot K V))).length + tombs (List.replicate 8 (.empty : Slot K V)) + 0 + 0 + 1 ≤ _
    rw [ents_new, tombs_new]
    simp, fun _ => rfl, fun l h => by cases h⟩
theorem new_L : (⟨List.replicate 8 .empty, none, 0⟩ : Tab K V).L = [] := by
  show oents none ++ ents (List.replicate 8 (.empty : Slot K V)) = []
  rw [ents_new]
  rfl
/-- What is known between two slots. -/
structure Mid (hash : K → Nat) (L : List (K × V)) (c n : Nat) (m : Nat) (y o : List (Slot K V)) : Prop where
  ly : y.length = n
  lo : m ≤ o.length
  oky : Ok hash y
  oko : Ok hash o
  pm : (ents o ++ ents y).Perm L
  cap : (ents y).length + tombs y + (ents o).length ≤ c
  gone : ∀ (j : Nat) (k : K) (v : V), j < m → o[j]? ≠ some (.full k v)
theorem WF.mid {hash : K → Nat} {t : Tab K V} (h : WF hash 1 t) {o : List (Slot K V)} (ho : t.o = some o) : Mid hash t.L ((ents t.y).length + tombs t.y + (ents o).length) t.y.length t.m t.y o ∧ NK t.L ∧ (ents t.y).length + tombs t.y + (ents o).length < t.y.length ∧ t.m + 8 ≤ o.length := by
  obtain ⟨h1, h2, h3, h4, h5⟩ := h.old o ho
  have hc := h.cap
  rw [ho] at hc
  have hd : (oents (some o)).length = (ents o).length := rfl
  have := h1.bd
  refine ⟨⟨rfl, by omega, h.oky, h2, ?_, Nat.le_refl _, h5⟩, h.nk, by omega, by omega⟩
  unfold Tab.L
  rw [ho]
  exact List.Perm.refl _
end
section
variable {K V : Type} [DecidableEq K]

/-! ### One slot of the elder array is gone through -/
/-- A pair is laid: where the way leads to. -/
def lay (hash : K → Nat) (l : List (Slot K V)) (k : K) (v : V) : List (Slot K V) := match (find l (hash k) k).2.1 with
  | some g => l.set g (.full k v)
  | none => l
theorem lay_is {hash : K → Nat} {l : List (Slot K V)} (ok : Ok hash l) {k : K} {v : V} (h : ∀ v, (k, v) ∉ ents l) (hu : (ents l).length + tombs l < l.length) :
    ∃ g d x, find l (hash k) k = (none, some g, d) ∧ lay hash l k v = l.set g (.full k v) ∧ l[g]? = some x ∧ (x = .empty ∨ x = .tomb) ∧ Ok hash (lay hash l k v) ∧ (ents (lay hash l k v)).Perm ((k, v) :: ents l) ∧
      (ents (lay hash l k v)).length = (ents l).length + 1 ∧ tombs (lay hash l k v) + x.isTomb.toNat = tombs l ∧ (lay hash l k v).length = l.length := by
  obtain ⟨g, d, h1, h2, h3⟩ := find_no ok h hu
  have he : lay hash l k v = l.set g (.full k v) := by unfold lay; rw [h1]
  have hx : ∃ x, l[g]? = some x ∧ (x = .empty ∨ x = .tomb) := by
    rcases h3 with h3 | h3
    · exact ⟨_, h3, .inl rfl⟩
    · exact ⟨_, h3, .inr rfl⟩
  obtain ⟨x, hx, hx2⟩ := hx
  have hp := ents_set l g x (.full k v) hx
  have hxe : x.ent = none := by rcases hx2 with rfl | rfl <;> rfl
  rw [hxe] at hp
  have ht := tombs_set l g x (.full k v) hx
  have hp2 : (ents (lay hash l k v)).Perm ((k, v) :: ents l) := by rw [he]; exact hp
  refine ⟨g, d, x, h1, he, hx, hx2, by rw [he]; exact ok.lay h2, hp2, by rw [hp2.length_eq]; rfl, ?_, by rw [he, List.length_set]⟩
  rw [he]
  simpa [Slot.isTomb] using ht
/-- The elder slots' slot i is gone through. -/
def step1 (hash : K → Nat) (p : List (Slot K V) × List (Slot K V)) (i : Nat) : List (Slot K V) × List (Slot K V) := match p.2[i]? with
  | some (.full k v) => (lay hash p.1 k v, p.2.set i .tomb)
  | _ => p
def moved (hash : K → Nat) (y o : List (Slot K V)) (m : Nat) : Nat → List (Slot K V) × List (Slot K V)
  | 0 => (y, o)
  | j + 1 => step1 hash (moved hash y o m j) (m + j)
theorem Mid.one {hash : K → Nat} {L : List (K × V)} {c n m : Nat} {y o : List (Slot K V)} (h : Mid hash L c n m y o) (hL : NK L) (hc : c < n) (hm : m < o.length) :
    Mid hash L c n (m + 1) (step1 hash (y, o) m).1 (step1 hash (y, o) m).2 ∧ (step1 hash (y, o) m).2.length = o.length := by
  have hnk : NK (ents o ++ ents y) := hL.perm h.pm.symm
  unfold step1
  split
  · next k v hs =>
    have hs : o[m]? = some (.full k v) := hs
    have hko : (k, v) ∈ ents o := mem_ents.2 ⟨m, hs⟩
    have hky : ∀ v', (k, v') ∉ ents y := fun v' hv => hnk.apart hko hv
    obtain ⟨g, d, x, h1, h2, h3, h4, h5, h6, h7, h8, h9⟩ := lay_is (v := v) h.oky hky (by have := h.cap; have := h.ly; omega)
    have hp := ents_set o m (.full k v) .tomb hs
    have hl := ents_len_set (y := .tomb) hs
    simp only [Slot.ent, Option.toList_some, Option.toList_none, List.length_cons, List.length_nil] at hl
    refine ⟨⟨by rw [h9]; exact h.ly, by show m + 1 ≤ (o.set m .tomb).length; rw [List.length_set]; omega, h5, h.oko.bury, ?_, ?_, ?_⟩, by rw [List.length_set]⟩
    · refine List.Perm.trans ?_ h.pm
      refine (List.Perm.append_left _ h6).trans ?_
      refine List.perm_middle.trans ?_
      rw [← List.cons_append]
      exact List.Perm.append_right _ hp
    · have := h.cap
      show (ents (lay hash y k v)).length + tombs (lay hash y k v) + (ents (o.set m .tomb)).length ≤ c
      omega
    · intro j k' v' hj hn
      obtain ⟨h10, h11⟩ := set_tomb hn
      exact h.gone j k' v' (by omega) h11
  · next hs =>
    refine ⟨⟨h.ly, by show m + 1 ≤ o.length; omega, h.oky, h.oko, h.pm, h.cap, ?_⟩, rfl⟩
    intro j k' v' hj hn
    by_cases hjm : j = m
    · subst hjm
      exact hs _ _ hn
    · exact h.gone j k' v' (by omega) hn
theorem Mid.many {hash : K → Nat} {L : List (K × V)} {c n m : Nat} {y o : List (Slot K V)} (h : Mid hash L c n m y o) (hL : NK L) (hc : c < n) : ∀ j, m + j ≤ o.length →
    Mid hash L c n (m + j) (moved hash y o m j).1 (moved hash y o m j).2 ∧ (moved hash y o m j).2.length = o.length
  | 0, _ => ⟨h, rfl⟩
  | j + 1, hj => by
    obtain ⟨h1, h2⟩ := Mid.many h hL hc j (by omega)
    obtain ⟨h3, h4⟩ := h1.one hL hc (by omega)
    exact ⟨h3, h4.trans h2⟩
/-- The table behind a step. -/
def step (hash : K → Nat) (t : Tab K V) : Tab K V := match t.o with
  | none => t
  | some o => if o.length ≤ t.m + 8 then ⟨(moved hash t.y o t.m 8).1, none, 0⟩ else ⟨(moved hash t.y o t.m 8).1, some (moved hash t.y o t.m 8).2, t.m + 8⟩
theorem step_wf {hash : K → Nat} {t : Tab K V} (h : WF hash 1 t) : (step hash t).L.Perm t.L ∧ WF hash 1 (step hash t) ∧ ((step hash t).o ≠ none → WF hash 2 (step hash t)) := by
  unfold step
  cases ho : t.o with
  | none => exact ⟨List.Perm.refl _, h, fun c => absurd ho c⟩
  | some o =>
    obtain ⟨hm, hnk, hc, hm8⟩ := h.mid ho
    obtain ⟨h1, h2, h3, h4, h5⟩ := h.old o ho
    obtain ⟨hk, hl⟩ := hm.many hnk hc 8 hm8
    have hcap := h.cap
    rw [ho] at hcap
    have hd : (oents (some o)).length = (ents o).length := rfl
    have hr : rest (some o) t.m = (o.length - t.m) / 8 := rfl
    have hkc := hk.cap
    have hlen := hl
    have hb := h1.bd
    dsimp only
    generalize moved hash t.y o t.m 8 = p at *
    obtain ⟨y', o'⟩ := p
    dsimp only at hk hl hlen hkc ⊢
    split
    · next hle =>
      have he : ents o' = [] := by
        rcases hem : ents o' with _ | ⟨⟨k, v⟩, L⟩
        · rfl
        · exfalso
          obtain ⟨n, hn⟩ := mem_ents.1 (show (k, v) ∈ ents o' by rw [hem]; simp)
          have hlt := (List.getElem?_eq_some_iff.1 hn).1
          exact hk.gone n k v (by omega) hn
      have hpm : (⟨y', none, 0⟩ : Tab K V).L.Perm t.L := by
        have := hk.pm
        rw [he] at this
        exact this
      refine ⟨hpm, ⟨by show Pow y'.length; rw [hk.ly]; exact h.py, hk.oky, hnk.perm hpm.symm, ?_, fun _ => rfl, fun l hl => by cases hl⟩, fun c => absurd rfl c⟩
      show (ents y').length + tombs y' + 0 + 0 + 1 ≤ y'.length
      rw [hk.ly]
      omega
    · next hle =>
      have hpm : (⟨y', some o', t.m + 8⟩ : Tab K V).L.Perm t.L := hk.pm
      have hw : WF hash 2 (⟨y', some o', t.m + 8⟩ : Tab K V) := by
        refine ⟨by show Pow y'.length; rw [hk.ly]; exact h.py, hk.oky, hnk.perm hpm.symm, ?_, fun c => (nomatch c), fun l hl => ?_⟩
        · show (ents y').length + tombs y' + (ents o').length + (o'.length - (t.m + 8)) / 8 + 2 ≤ y'.length
          rw [hk.ly]
          omega
        · injection hl with hl'
          subst hl'
          exact ⟨by rw [hlen]; exact h1, hk.oko, by show t.m + 8 < _; omega, by show (t.m + 8) % 8 = 0; omega, hk.gone⟩
      exact ⟨hpm, hw.less_s (by decide), fun _ => hw⟩
end
end Go.Proofs.Ytknbehjhaaidoaa.TB
