/- IndexExact: the texts TbM TbN TbO of this seat, one behind the other. -/
import Derived.Lib.Hide
/- A table with open addressing that grows step by step, in plain Lean: its slots, a key's way, laying, burying. No program. -/
namespace Go.Proofs.Ytknbehjhaaidoaa.TB
set_option linter.unusedVariables false
set_option linter.unusedSimpArgs false

/-- What lies in a slot. -/
inductive Slot (K V : Type) where
  | empty
  | tomb
  | full (k : K) (v : V)

section
variable {K V : Type}
def Slot.ent : Slot K V → Option (K × V)
  | .full k v => some (k, v)
  | _ => none
def Slot.isTomb : Slot K V → Bool
  | .tomb => true
  | _ => false
/-- The pairs, by their slots. -/
def ents (l : List (Slot K V)) : List (K × V) := l.filterMap Slot.ent
def tombs (l : List (Slot K V)) : Nat := l.countP Slot.isTomb
theorem ents_nil : ents ([] : List (Slot K V)) = [] := rfl
theorem ents_cons (a : Slot K V) (l : List (Slot K V)) : ents (a :: l) = a.ent.toList ++ ents l := by
  unfold ents
  rw [List.filterMap_cons]
  cases a.ent <;> rfl
theorem mem_ents {l : List (Slot K V)} {k : K} {v : V} : (k, v) ∈ ents l ↔ ∃ n : Nat, l[n]? = some (.full k v) := by
  unfold ents
  rw [List.mem_filterMap]
  constructor
  · rintro ⟨x, hx, he⟩
    obtain ⟨n, hn⟩ := List.mem_iff_getElem?.1 hx
    refine ⟨n, ?_⟩
    rw [hn]
    cases x with
    | empty => cases he
    | tomb => cases he
    | full k' v' => injection he with he; injection he with h1 h2; rw [h1, h2]
  · rintro ⟨n, hn⟩
    exact ⟨_, List.mem_iff_getElem?.2 ⟨n, hn⟩, rfl⟩
theorem ents_set : ∀ (l : List (Slot K V)) (n : Nat) (x y : Slot K V), l[n]? = some x → (x.ent.toList ++ ents (l.set n y)).Perm (y.ent.toList ++ ents l)
  | [], n, x, y, h => by simp at h
  | a :: l, 0, x, y, h => by
    simp at h
    subst h
    rw [List.set_cons_zero, ents_cons, ents_cons, ← List.append_assoc, ← List.append_assoc]
    exact List.Perm.append_right _ List.perm_append_comm
  | a :: l, n + 1, x, y, h => by
    have ih := ents_set l n x y (by simpa using h)
    rw [List.set_cons_succ, ents_cons, ents_cons]
    have h1 : (x.ent.toList ++ (a.ent.toList ++ ents (l.set n y))).Perm (a.ent.toList ++ (x.ent.toList ++ ents (l.set n y))) := by
      rw [← List.append_assoc, ← List.append_assoc]
      exact List.Perm.append_right _ List.perm_append_comm
    have h2 : (a.ent.toList ++ (y.ent.toList ++ ents l)).Perm (y.ent.toList ++ (a.ent.toList ++ ents l)) := by
      rw [← List.append_assoc, ← List.append_assoc]
      exact List.Perm.append_right _ List.perm_append_comm
    exact h1.trans ((List.Perm.append_left _ ih).trans h2)
theorem tombs_set : ∀ (l : List (Slot K V)) (n : Nat) (x y : Slot K V), l[n]? = some x → tombs (l.set n y) + x.isTomb.toNat = tombs l + y.isTomb.toNat
  | [], n, x, y, h => by simp at h
  | a :: l, 0, x, y, h => by
    simp at h
    subst h
    unfold tombs
    rw [List.set_cons_zero, List.countP_cons, List.countP_cons]
    cases a.isTomb <;> cases y.isTomb <;> simp <;> omega
  | a :: l, n + 1, x, y, h => by
    have ih := tombs_set l n x y (by simpa using h)
    unfold tombs at ih ⊢
    rw [List.set_cons_succ, List.countP_cons, List.countP_cons]
    omega
theorem ents_len_set {l : List (Slot K V)} {n : Nat} {x y : Slot K V} (h : l[n]? = some x) : (ents (l.set n y)).length + x.ent.toList.length = (ents l).length + y.ent.toList.length := by
  have := (ents_set l n x y h).length_eq
  simp only [List.length_append] at this
  omega
theorem ents_all : ∀ (l : List (Slot K V)), (∀ x ∈ l, ∃ k v, x = .full k v) → (ents l).length = l.length
  | [], _ => rfl
  | a :: l, h => by
    obtain ⟨k, v, rfl⟩ := h a (by simp)
    rw [ents_cons]
    have := ents_all l (fun x hx => h x (by simp [hx]))
    simp [Slot.ent]
    omega
theorem ents_le : ∀ (l : List (Slot K V)), (ents l).length + tombs l ≤ l.length
  | [] => Nat.le_refl _
  | a :: l => by
    have := ents_le l
    rw [ents_cons, List.length_append, List.length_cons]
    unfold tombs at this ⊢
    rw [List.countP_cons]
    cases a <;> simp [Slot.ent, Slot.isTomb] <;> omega
/-- No empty slot stands on the first i places of the way. -/
def Chain (l : List (Slot K V)) (h i : Nat) : Prop := ∀ j, j < i → ∃ x, l[(h + j) % l.length]? = some x ∧ x ≠ .empty
/-- The way comes to slot n. -/
def Way (l : List (Slot K V)) (h e n : Nat) : Prop := (h + e) % l.length = n ∧ Chain l h e
theorem round {N : Nat} (hN : 0 < N) (h n : Nat) (hn : n < N) : ∃ j, j < N ∧ (h + j) % N = n := by
  have hh := Nat.mod_lt h hN
  refine ⟨(n + (N - h % N)) % N, Nat.mod_lt _ hN, ?_⟩
  rw [Nat.add_mod, Nat.mod_mod, ← Nat.add_mod, Nat.add_mod, Nat.add_mod n]
  rw [← Nat.add_mod n, ← Nat.add_mod]
  have e : h + (n + (N - h % N)) = n + N * (h / N + 1) := by
    have := Nat.div_add_mod h N
    rw [Nat.mul_add, Nat.mul_one]
    omega
  rw [e, Nat.add_mul_mod_self_left, Nat.mod_eq_of_lt hn]
/-- Every key's way comes to its slot. -/
def Ok (hash : K → Nat) (l : List (Slot K V)) : Prop := ∀ (n : Nat) (k : K) (v : V), l[n]? = some (.full k v) → ∃ e, e < l.length ∧ Way l (hash k) e n
def NK (L : List (K × V)) : Prop := (L.map Prod.fst).Nodup
theorem NK.one {L : List (K × V)} (h : NK L) {k : K} {v v' : V} (h1 : (k, v) ∈ L) (h2 : (k, v') ∈ L) : v = v' := by
  induction L with
  | nil => cases h1
  | cons a L ih =>
    have h3 := List.nodup_cons.1 h
    rcases List.mem_cons.1 h1 with e1 | e1 <;> rcases List.mem_cons.1 h2 with e2 | e2
    · rw [← e1] at e2; injection e2 with _ e2; exact e2.symm
    · exact absurd (List.mem_map.2 ⟨_, e2, by rw [← e1]⟩) h3.1
    · exact absurd (List.mem_map.2 ⟨_, e1, by rw [← e2]⟩) h3.1
    · exact ih h3.2 e1 e2
theorem NK.perm {L L' : List (K × V)} (h : NK L) (p : L.Perm L') : NK L' := (p.map Prod.fst).nodup_iff.1 h
/-! ### Laying, burying -/
theorem Way.set {l : List (Slot K V)} {h e n f : Nat} {y : Slot K V} (w : Way l h e n) (hy : y ≠ .empty) : Way (l.set f y) h e n := by
  refine ⟨by rw [List.length_set]; exact w.1, fun j hj => ?_⟩
  obtain ⟨x, hx, hne⟩ := w.2 j hj
  rw [List.length_set, List.getElem?_set]
  split
  · next e1 =>
    have hlt := (List.getElem?_eq_some_iff.1 hx).1
    rw [if_pos (by rw [e1]; exact hlt)]
    exact ⟨y, rfl, hy⟩
  · exact ⟨x, hx, hne⟩
theorem Ok.lay {hash : K → Nat} {l : List (Slot K V)} (ok : Ok hash l) {k : K} {v : V} {g : Nat} (hg : ∃ e, e < l.length ∧ Way l (hash k) e g) : Ok hash (l.set g (.full k v)) := by
  intro n k' v' hn
  rw [List.length_set]
  rw [List.getElem?_set] at hn
  split at hn
  · next e1 =>
    split at hn
    · injection hn with hn
      injection hn with h1 h2
      subst h1 e1
      obtain ⟨e, he, hw⟩ := hg
      exact ⟨e, he, hw.set (by simp)⟩
    · cases hn
  · obtain ⟨e, he, hw⟩ := ok n k' v' hn
    exact ⟨e, he, hw.set (by simp)⟩
theorem Ok.bury {hash : K → Nat} {l : List (Slot K V)} (ok : Ok hash l) {g : Nat} : Ok hash (l.set g .tomb) := by
  intro n k' v' hn
  rw [List.length_set]
  rw [List.getElem?_set] at hn
  split at hn
  · split at hn
    · injection hn with hn
      cases hn
    · cases hn
  · obtain ⟨e, he, hw⟩ := ok n k' v' hn
    exact ⟨e, he, hw.set (by simp)⟩
theorem Ok.new {hash : K → Nat} (n : Nat) : Ok hash (List.replicate n (.empty : Slot K V)) := by
  intro m k v h
  rw [List.getElem?_replicate] at h
  split at h
  · injection h with h; cases h
  · cases h
theorem ents_new (n : Nat) : ents (List.replicate n (.empty : Slot K V)) = [] := by
  induction n with
  | zero => rfl
  | succ n ih => rw [List.replicate_succ, ents_cons, ih]; rfl
theorem tombs_new (n : Nat) : tombs (List.replicate n (.empty : Slot K V)) = 0 := by
  unfold tombs
  rw [List.countP_replicate]
  rfl
end
section
variable {K V : Type} [DecidableEq K]
/-! ### A key's way -/

def probe (l : List (Slot K V)) (h : Nat) (k : K) : Nat → Nat → Option Nat → Option Nat × Option Nat × Nat
  | 0, i, f => (none, f, i)
  | r + 1, i, f =>
    match l[(h + i) % l.length]? with
    | some .tomb => probe l h k r (i + 1) (some (f.getD ((h + i) % l.length)))
    | some (.full k' _) => if k' = k then (some ((h + i) % l.length), f, i + 1) else probe l h k r (i + 1) f
    | _ => (none, some (f.getD ((h + i) % l.length)), i + 1)
def find (l : List (Slot K V)) (h : Nat) (k : K) : Option Nat × Option Nat × Nat := probe l h k l.length 0 none
theorem probe_at {l : List (Slot K V)} {h : Nat} {k : K} : ∀ (r i : Nat) (f : Option Nat) (n : Nat) (g : Option Nat) (d : Nat), probe l h k r i f = (some n, g, d) → ∃ v, l[n]? = some (.full k v)
  | 0, i, f, n, g, d, hp => by cases hp
  | r + 1, i, f, n, g, d, hp => by
    unfold probe at hp
    split at hp
    · exact probe_at r _ _ _ _ _ hp
    · next k' v' hs =>
      split at hp
      · next hk =>
        injection hp with h1 h2
        injection h1 with h1
        subst hk h1
        exact ⟨_, hs⟩
      · exact probe_at r _ _ _ _ _ hp
    · cases hp
theorem probe_none {l : List (Slot K V)} {h : Nat} {k : K} : ∀ (r i : Nat) (f g : Option Nat) (d : Nat), probe l h k r i f = (none, g, d) → ∀ e n v, i ≤ e → e < i + r → Way l h e n → l[n]? ≠ some (.full k v)
  | 0, i, f, g, d, hp, e, n, v, h1, h2, hw => by omega
  | r + 1, i, f, g, d, hp, e, n, v, h1, h2, hw => by
    intro hn
    unfold probe at hp
    by_cases hie : i = e
    · subst hie
      rw [hw.1, hn] at hp
      simp at hp
    · split at hp
      · exact probe_none r _ _ _ _ hp e n v (by omega) (by omega) hw hn
      · split at hp
        · cases hp
        · exact probe_none r _ _ _ _ hp e n v (by omega) (by omega) hw hn
      · next h3 h4 =>
        obtain ⟨x, hx, hne⟩ := hw.2 i (by omega)
        rw [hx] at h3 h4
        cases x with
        | empty => exact hne rfl
        | tomb => exact h3 rfl
        | full k' v' => exact h4 _ _ rfl
theorem probe_free {l : List (Slot K V)} {h : Nat} {k : K} (hl : 0 < l.length) : ∀ (r i : Nat) (f : Option Nat) (g d : Nat), Chain l h i → probe l h k r i f = (none, some g, d) →
    f = some g ∨ ∃ e, i ≤ e ∧ e < i + r ∧ Way l h e g ∧ (l[g]? = some .empty ∨ l[g]? = some .tomb)
  | 0, i, f, g, d, hc, hp => by
    injection hp with h1 h2
    injection h2 with h2 h3
    exact .inl h2
  | r + 1, i, f, g, d, hc, hp => by
    unfold probe at hp
    have hc2 : ∀ x, l[(h + i) % l.length]? = some x → x ≠ .empty → Chain l h (i + 1) := fun x hx hne j hj => by
      by_cases hji : j = i
      · exact ⟨x, by rw [hji]; exact hx, hne⟩
      · exact hc j (by omega)
    split at hp
    · next hs =>
      rcases probe_free hl r _ _ _ _ (hc2 _ hs (by simp)) hp with h1 | ⟨e, h1, h2, h3, h4⟩
      · injection h1 with h1
        cases f with
        | some f0 => exact .inl (by rw [← h1]; rfl)
        | none => exact .inr ⟨i, Nat.le_refl _, by omega, ⟨h1, hc⟩, .inr (by rw [← h1]; exact hs)⟩
      · exact .inr ⟨e, by omega, by omega, h3, h4⟩
    · next k' v' hs =>
      split at hp
      · cases hp
      · rcases probe_free hl r _ _ _ _ (hc2 _ hs (by simp)) hp with h1 | ⟨e, h1, h2, h3, h4⟩
        · exact .inl h1
        · exact .inr ⟨e, by omega, by omega, h3, h4⟩
    · next h3 h4 =>
      injection hp with h1 h2
      injection h2 with h2 h5
      injection h2 with h2
      cases f with
      | some f0 => exact .inl (by rw [← h2]; rfl)
      | none =>
        refine .inr ⟨i, Nat.le_refl _, by omega, ⟨h2, hc⟩, .inl ?_⟩
        have h6 : (h + i) % l.length < l.length := Nat.mod_lt _ hl
        rw [← h2]
        show l[(h + i) % l.length]? = _
        rw [List.getElem?_eq_getElem h6] at h3 h4 ⊢
        cases hx : l[(h + i) % l.length] with
        | empty => rfl
        | tomb => rw [hx] at h3; exact absurd rfl h3
        | full k' v' => rw [hx] at h4; exact absurd rfl (h4 _ _)
theorem probe_full {l : List (Slot K V)} {h : Nat} {k : K} : ∀ (r i : Nat) (f : Option Nat) (d : Nat), probe l h k r i f = (none, none, d) → ∀ j, i ≤ j → j < i + r → ∃ k' v', l[(h + j) % l.length]? = some (.full k' v')
  | 0, i, f, d, hp, j, h1, h2 => by omega
  | r + 1, i, f, d, hp, j, h1, h2 => by
    unfold probe at hp
    have hn : ∀ (r i d x : Nat), probe l h k r i (some x) ≠ (none, none, d) := by
      intro r
      induction r with
      | zero => intro i d x hp; cases hp
      | succ r ih =>
        intro i d x hp
        unfold probe at hp
        split at hp
        · exact ih _ _ _ hp
        · split at hp
          · cases hp
          · exact ih _ _ _ hp
        · cases hp
    split at hp
    · exact absurd hp (hn _ _ _ _)
    · next k' v' hs =>
      split at hp
      · cases hp
      · by_cases hij : i = j
        · exact ⟨k', v', by rw [← hij]; exact hs⟩
        · exact probe_full r _ _ _ hp j (by omega) (by omega)
    · cases hp
/-- All but a key. -/
def less (L : List (K × V)) (k : K) : List (K × V) := L.filter fun p => decide (p.1 ≠ k)
theorem less_no {L : List (K × V)} {k : K} (h : ∀ v, (k, v) ∉ L) : less L k = L := by
  unfold less
  refine List.filter_eq_self.2 fun p hp => decide_eq_true fun e => ?_
  refine h p.2 ?_
  rw [← e]
  exact hp
theorem less_yes {L : List (K × V)} {k : K} {v : V} (hn : NK L) (h : (k, v) ∈ L) : L.Perm ((k, v) :: less L k) := by
  induction L with
  | nil => cases h
  | cons a L ih =>
    have h3 := List.nodup_cons.1 hn
    unfold less
    rw [List.filter_cons]
    rcases List.mem_cons.1 h with e1 | e1
    · subst e1
      simp only [ne_eq, not_true_eq_false, decide_false, Bool.false_eq_true, if_false]
      refine List.Perm.cons _ ?_
      have : less L k = L := less_no fun v' hv => h3.1 (List.mem_map.2 ⟨_, hv, rfl⟩)
      unfold less at this
      rw [this]
    · have hne : a.1 ≠ k := fun e => h3.1 (List.mem_map.2 ⟨_, e1, e.symm⟩)
      rw [if_pos (decide_eq_true hne)]
      exact (List.Perm.cons a (ih h3.2 e1)).trans (List.Perm.swap _ _ _)
theorem less_perm {L L' : List (K × V)} (p : L.Perm L') (k : K) : (less L k).Perm (less L' k) := p.filter _
theorem less_mem {L : List (K × V)} {k k' : K} {v : V} : (k', v) ∈ less L k ↔ (k', v) ∈ L ∧ k' ≠ k := by
  unfold less
  rw [List.mem_filter]
  simp
theorem NK.less {L : List (K × V)} (h : NK L) (k : K) : NK (less L k) := List.Nodup.sublist (List.Sublist.map _ List.filter_sublist) h
theorem NK.put {L : List (K × V)} (h : NK L) (k : K) (v : V) : NK ((k, v) :: TB.less L k) := by
  refine List.nodup_cons.2 ⟨fun hm => ?_, h.less k⟩
  obtain ⟨p, hp, e⟩ := List.mem_map.1 hm
  exact (less_mem.1 (show (p.1, p.2) ∈ TB.less L k from hp)).2 e
/-! ### Looking up -/
theorem find_way {hash : K → Nat} {l : List (Slot K V)} (ok : Ok hash l) (hl : 0 < l.length) (k : K) :
    (∃ n g d v, find l (hash k) k = (some n, g, d) ∧ l[n]? = some (.full k v)) ∨ (∃ g d, find l (hash k) k = (none, g, d) ∧ ∀ v, (k, v) ∉ ents l) := by
  unfold find
  rcases hp : probe l (hash k) k l.length 0 none with ⟨a, g, d⟩
  cases a with
  | some n =>
    obtain ⟨v, hv⟩ := probe_at _ _ _ _ _ _ hp
    exact .inl ⟨n, g, d, v, rfl, hv⟩
  | none =>
    refine .inr ⟨g, d, rfl, fun v hm => ?_⟩
    obtain ⟨n, hn⟩ := mem_ents.1 hm
    obtain ⟨e, he, hw⟩ := ok n k v hn
    exact probe_none _ _ _ _ _ hp e n v (Nat.zero_le _) (by omega) hw hn
theorem find_yes {hash : K → Nat} {l : List (Slot K V)} (ok : Ok hash l) (hl : 0 < l.length) (hn : NK (ents l)) {k : K} {v : V} (h : (k, v) ∈ ents l) :
    ∃ n g d, find l (hash k) k = (some n, g, d) ∧ l[n]? = some (.full k v) := by
  rcases find_way ok hl k with ⟨n, g, d, v', h1, h2⟩ | ⟨g, d, _, h2⟩
  · have := hn.one (mem_ents.2 ⟨n, h2⟩) h
    subst this
    exact ⟨n, g, d, h1, h2⟩
  · exact absurd h (h2 v)
theorem find_no {hash : K → Nat} {l : List (Slot K V)} (ok : Ok hash l) {k : K} (h : ∀ v, (k, v) ∉ ents l) (hu : (ents l).length + tombs l < l.length) :
    ∃ g d, find l (hash k) k = (none, some g, d) ∧ (∃ e, e < l.length ∧ Way l (hash k) e g) ∧ (l[g]? = some .empty ∨ l[g]? = some .tomb) := by
  have hl : 0 < l.length := by omega
  rcases find_way ok hl k with ⟨n, g, d, v', h1, h2⟩ | ⟨g, d, h1, h2⟩
  · exact absurd (mem_ents.2 ⟨n, h2⟩) (h v')
  · cases g with
    | some g =>
      rcases probe_free hl _ _ _ _ _ (fun j hj => by omega) h1 with h3 | ⟨e, _, h4, h5, h6⟩
      · cases h3
      · exact ⟨g, d, h1, ⟨e, by omega, h5⟩, h6⟩
    | none =>
      exfalso
      have h3 := probe_full _ _ _ _ h1
      have : (ents l).length = l.length := ents_all l fun x hx => by
        obtain ⟨n, hn⟩ := List.mem_iff_getElem?.1 hx
        have hnl : n < l.length := (List.getElem?_eq_some_iff.1 hn).1
        obtain ⟨j, hj, e⟩ := round hl (hash k) n hnl
        obtain ⟨k', v', h4⟩ := h3 j (Nat.zero_le _) (by omega)
        rw [e, hn] at h4
        injection h4 with h4
        exact ⟨k', v', h4⟩
      omega
end
end Go.Proofs.Ytknbehjhaaidoaa.TB

/- A table that grows step by step, in plain Lean: its step, its Put and Del. No program. -/
namespace Go.Proofs.Ytknbehjhaaidoaa.TB
set_option linter.unusedVariables false
set_option linter.unusedSimpArgs false

/-- A table: its younger slots, its elder ones, how many of these were gone through. -/
structure Tab (K V : Type) where
  y : List (Slot K V)
  o : Option (List (Slot K V))
  m : Nat

section
variable {K V : Type}
def oents (o : Option (List (Slot K V))) : List (K × V) := (o.map ents).getD []
/-- All pairs, as All goes through them. -/
def Tab.L (t : Tab K V) : List (K × V) := oents t.o ++ ents t.y
/-- A size. -/
def Pow (n : Nat) : Prop := ∃ e, 3 ≤ e ∧ e ≤ 40 ∧ n = 2 ^ e
theorem Pow.bd {n : Nat} (h : Pow n) : 8 ≤ n ∧ n ≤ 1099511627776 ∧ n % 8 = 0 := by
  obtain ⟨e, h1, h2, rfl⟩ := h
  obtain ⟨d, rfl⟩ : ∃ d, e = d + 3 := ⟨e - 3, by omega⟩
  have h3 : 2 ^ (d + 3) ≤ 2 ^ 40 := Nat.pow_le_pow_right (by decide) h2
  have h4 : 1 ≤ 2 ^ d := Nat.one_le_two_pow
  rw [Nat.pow_succ, Nat.pow_succ, Nat.pow_succ] at h3 ⊢
  omega
theorem Pow.new : Pow 8 := ⟨3, by decide, by decide, rfl⟩
/-- What is left to be gone through, in steps. -/
def rest (o : Option (List (Slot K V))) (m : Nat) : Nat := match o with
  | none => 0
  | some l => (l.length - m) / 8
/-- The table is whole, with s slots to spare. -/
structure WF (hash : K → Nat) (s : Nat) (t : Tab K V) : Prop where
  py : Pow t.y.length
  oky : Ok hash t.y
  nk : NK t.L
  cap : (ents t.y).length + tombs t.y + (oents t.o).length + rest t.o t.m + s ≤ t.y.length
  non : t.o = none → t.m = 0
  old : ∀ l, t.o = some l → Pow l.length ∧ Ok hash l ∧ t.m < l.length ∧ t.m % 8 = 0 ∧ ∀ (j : Nat) (k : K) (v : V), j < t.m → l[j]? ≠ some (.full k v)
theorem WF.less_s {hash : K → Nat} {s s' : Nat} {t : Tab K V} (h : WF hash s t) (hs : s' ≤ s) : WF hash s' t := ⟨h.py, h.oky, h.nk, by have := h.cap; omega, h.non, h.old⟩
theorem NK.left {L L' : List (K × V)} (h : NK (L ++ L')) : NK L := by
  unfold NK at h ⊢
  rw [List.map_append] at h
  exact (List.nodup_append.1 h).1
theorem NK.right {L L' : List (K × V)} (h : NK (L ++ L')) : NK L' := by
  unfold NK at h ⊢
  rw [List.map_append] at h
  exact (List.nodup_append.1 h).2.1
theorem NK.apart {L L' : List (K × V)} (h : NK (L ++ L')) {k : K} {v v' : V} (h1 : (k, v) ∈ L) (h2 : (k, v') ∈ L') : False := by
  unfold NK at h
  rw [List.map_append] at h
  exact (List.nodup_append.1 h).2.2 k (List.mem_map.2 ⟨_, h1, rfl⟩) k (List.mem_map.2 ⟨_, h2, rfl⟩) rfl

theorem set_tomb {l : List (Slot K V)} {g j : Nat} {k : K} {v : V} (h : (l.set g .tomb)[j]? = some (.full k v)) : g ≠ j ∧ l[j]? = some (.full k v) := by
  by_cases e : g = j
  · exfalso
    subst e
    have h1 := (List.getElem?_eq_some_iff.1 h).1
    rw [List.length_set] at h1
    rw [List.getElem?_set_self h1] at h
    cases h
  · rw [List.getElem?_set_ne e] at h
    exact ⟨e, h⟩
theorem new_wf (hash : K → Nat) : WF hash 1 (⟨List.replicate 8 .empty, none, 0⟩ : Tab K V) :=
  ⟨by rw [List.length_replicate]; exact Pow.new, Ok.new 8, by
    show NK (oents none ++ ents (List.replicate 8 (.empty : Slot K V)))
    rw [ents_new]
    exact List.nodup_nil, by
    show (ents (List.replicate 8 (.empty : Slot K V))).length + tombs (List.replicate 8 (.empty : Slot K V)) + 0 + 0 + 1 ≤ _
    rw [ents_new, tombs_new]
    simp, fun _ => rfl, fun l h => by cases h⟩
theorem new_L : (⟨List.replicate 8 .empty, none, 0⟩ : Tab K V).L = [] := by
  show oents none ++ ents (List.replicate 8 (.empty : Slot K V)) = []
  rw [ents_new]
  rfl
/-- What is known between two slots. -/
structure Mid (hash : K → Nat) (L : List (K × V)) (c n : Nat) (m : Nat) (y o : List (Slot K V)) : Prop where
  ly : y.length = n
  lo : m ≤ o.length
  oky : Ok hash y
  oko : Ok hash o
  pm : (ents o ++ ents y).Perm L
  cap : (ents y).length + tombs y + (ents o).length ≤ c
  gone : ∀ (j : Nat) (k : K) (v : V), j < m → o[j]? ≠ some (.full k v)
theorem WF.mid {hash : K → Nat} {t : Tab K V} (h : WF hash 1 t) {o : List (Slot K V)} (ho : t.o = some o) : Mid hash t.L ((ents t.y).length + tombs t.y + (ents o).length) t.y.length t.m t.y o ∧ NK t.L ∧ (ents t.y).length + tombs t.y + (ents o).length < t.y.length ∧ t.m + 8 ≤ o.length := by
  obtain ⟨h1, h2, h3, h4, h5⟩ := h.old o ho
  have hc := h.cap
  rw [ho] at hc
  have hd : (oents (some o)).length = (ents o).length := rfl
  have := h1.bd
  refine ⟨⟨rfl, by omega, h.oky, h2, ?_, Nat.le_refl _, h5⟩, h.nk, by omega, by omega⟩
  unfold Tab.L
  rw [ho]
  exact List.Perm.refl _
end
section
variable {K V : Type} [DecidableEq K]

/-! ### One slot of the elder array is gone through -/
/-- A pair is laid: where the way leads to. -/
def lay (hash : K → Nat) (l : List (Slot K V)) (k : K) (v : V) : List (Slot K V) := match (find l (hash k) k).2.1 with
  | some g => l.set g (.full k v)
  | none => l
theorem lay_is {hash : K → Nat} {l : List (Slot K V)} (ok : Ok hash l) {k : K} {v : V} (h : ∀ v, (k, v) ∉ ents l) (hu : (ents l).length + tombs l < l.length) :
    ∃ g d x, find l (hash k) k = (none, some g, d) ∧ lay hash l k v = l.set g (.full k v) ∧ l[g]? = some x ∧ (x = .empty ∨ x = .tomb) ∧ Ok hash (lay hash l k v) ∧ (ents (lay hash l k v)).Perm ((k, v) :: ents l) ∧
      (ents (lay hash l k v)).length = (ents l).length + 1 ∧ tombs (lay hash l k v) + x.isTomb.toNat = tombs l ∧ (lay hash l k v).length = l.length := by
  obtain ⟨g, d, h1, h2, h3⟩ := find_no ok h hu
  have he : lay hash l k v = l.set g (.full k v) := by unfold lay; rw [h1]
  have hx : ∃ x, l[g]? = some x ∧ (x = .empty ∨ x = .tomb) := by
    rcases h3 with h3 | h3
    · exact ⟨_, h3, .inl rfl⟩
    · exact ⟨_, h3, .inr rfl⟩
  obtain ⟨x, hx, hx2⟩ := hx
  have hp := ents_set l g x (.full k v) hx
  have hxe : x.ent = none := by rcases hx2 with rfl | rfl <;> rfl
  rw [hxe] at hp
  have ht := tombs_set l g x (.full k v) hx
  have hp2 : (ents (lay hash l k v)).Perm ((k, v) :: ents l) := by rw [he]; exact hp
  refine ⟨g, d, x, h1, he, hx, hx2, by rw [he]; exact ok.lay h2, hp2, by rw [hp2.length_eq]; rfl, ?_, by rw [he, List.length_set]⟩
  rw [he]
  simpa [Slot.isTomb] using ht
/-- The elder slots' slot i is gone through. -/
def step1 (hash : K → Nat) (p : List (Slot K V) × List (Slot K V)) (i : Nat) : List (Slot K V) × List (Slot K V) := match p.2[i]? with
  | some (.full k v) => (lay hash p.1 k v, p.2.set i .tomb)
  | _ => p
def moved (hash : K → Nat) (y o : List (Slot K V)) (m : Nat) : Nat → List (Slot K V) × List (Slot K V)
  | 0 => (y, o)
  | j + 1 => step1 hash (moved hash y o m j) (m + j)
theorem Mid.one {hash : K → Nat} {L : List (K × V)} {c n m : Nat} {y o : List (Slot K V)} (h : Mid hash L c n m y o) (hL : NK L) (hc : c < n) (hm : m < o.length) :
    Mid hash L c n (m + 1) (step1 hash (y, o) m).1 (step1 hash (y, o) m).2 ∧ (step1 hash (y, o) m).2.length = o.length := by
  have hnk : NK (ents o ++ ents y) := hL.perm h.pm.symm
  unfold step1
  split
  · next k v hs =>
    have hs : o[m]? = some (.full k v) := hs
    have hko : (k, v) ∈ ents o := mem_ents.2 ⟨m, hs⟩
    have hky : ∀ v', (k, v') ∉ ents y := fun v' hv => hnk.apart hko hv
    obtain ⟨g, d, x, h1, h2, h3, h4, h5, h6, h7, h8, h9⟩ := lay_is (v := v) h.oky hky (by have := h.cap; have := h.ly; omega)
    have hp := ents_set o m (.full k v) .tomb hs
    have hl := ents_len_set (y := .tomb) hs
    simp only [Slot.ent, Option.toList_some, Option.toList_none, List.length_cons, List.length_nil] at hl
    refine ⟨⟨by rw [h9]; exact h.ly, by show m + 1 ≤ (o.set m .tomb).length; rw [List.length_set]; omega, h5, h.oko.bury, ?_, ?_, ?_⟩, by rw [List.length_set]⟩
    · refine List.Perm.trans ?_ h.pm
      refine (List.Perm.append_left _ h6).trans ?_
      refine List.perm_middle.trans ?_
      rw [← List.cons_append]
      exact List.Perm.append_right _ hp
    · have := h.cap
      show (ents (lay hash y k v)).length + tombs (lay hash y k v) + (ents (o.set m .tomb)).length ≤ c
      omega
    · intro j k' v' hj hn
      obtain ⟨h10, h11⟩ := set_tomb hn
      exact h.gone j k' v' (by omega) h11
  · next hs =>
    refine ⟨⟨h.ly, by show m + 1 ≤ o.length; omega, h.oky, h.oko, h.pm, h.cap, ?_⟩, rfl⟩
    intro j k' v' hj hn
    by_cases hjm : j = m
    · subst hjm
      exact hs _ _ hn
    · exact h.gone j k' v' (by omega) hn
theorem Mid.many {hash : K → Nat} {L : List (K × V)} {c n m : Nat} {y o : List (Slot K V)} (h : Mid hash L c n m y o) (hL : NK L) (hc : c < n) : ∀ j, m + j ≤ o.length →
    Mid hash L c n (m + j) (moved hash y o m j).1 (moved hash y o m j).2 ∧ (moved hash y o m j).2.length = o.length
  | 0, _ => ⟨h, rfl⟩
  | j + 1, hj => by
    obtain ⟨h1, h2⟩ := Mid.many h hL hc j (by omega)
    obtain ⟨h3, h4⟩ := h1.one hL hc (by omega)
    exact ⟨h3, h4.trans h2⟩
/-- The table behind a step. -/
def step (hash : K → Nat) (t : Tab K V) : Tab K V := match t.o with
  | none => t
  | some o => if o.length ≤ t.m + 8 then ⟨(moved hash t.y o t.m 8).1, none, 0⟩ else ⟨(moved hash t.y o t.m 8).1, some (moved hash t.y o t.m 8).2, t.m + 8⟩
theorem step_wf {hash : K → Nat} {t : Tab K V} (h : WF hash 1 t) : (step hash t).L.Perm t.L ∧ WF hash 1 (step hash t) ∧ ((step hash t).o ≠ none → WF hash 2 (step hash t)) := by
  unfold step
  cases ho : t.o with
  | none => exact ⟨List.Perm.refl _, h, fun c => absurd ho c⟩
  | some o =>
    obtain ⟨hm, hnk, hc, hm8⟩ := h.mid ho
    obtain ⟨h1, h2, h3, h4, h5⟩ := h.old o ho
    obtain ⟨hk, hl⟩ := hm.many hnk hc 8 hm8
    have hcap := h.cap
    rw [ho] at hcap
    have hd : (oents (some o)).length = (ents o).length := rfl
    have hr : rest (some o) t.m = (o.length - t.m) / 8 := rfl
    have hkc := hk.cap
    have hlen := hl
    have hb := h1.bd
    dsimp only
    generalize moved hash t.y o t.m 8 = p at *
    obtain ⟨y', o'⟩ := p
    dsimp only at hk hl hlen hkc ⊢
    split
    · next hle =>
      have he : ents o' = [] := by
        rcases hem : ents o' with _ | ⟨⟨k, v⟩, L⟩
        · rfl
        · exfalso
          obtain ⟨n, hn⟩ := mem_ents.1 (show (k, v) ∈ ents o' by rw [hem]; simp)
          have hlt := (List.getElem?_eq_some_iff.1 hn).1
          exact hk.gone n k v (by omega) hn
      have hpm : (⟨y', none, 0⟩ : Tab K V).L.Perm t.L := by
        have := hk.pm
        rw [he] at this
        exact this
      refine ⟨hpm, ⟨by show Pow y'.length; rw [hk.ly]; exact h.py, hk.oky, hnk.perm hpm.symm, ?_, fun _ => rfl, fun l hl => by cases hl⟩, fun c => absurd rfl c⟩
      show (ents y').length + tombs y' + 0 + 0 + 1 ≤ y'.length
      rw [hk.ly]
      omega
    · next hle =>
      have hpm : (⟨y', some o', t.m + 8⟩ : Tab K V).L.Perm t.L := hk.pm
      have hw : WF hash 2 (⟨y', some o', t.m + 8⟩ : Tab K V) := by
        refine ⟨by show Pow y'.length; rw [hk.ly]; exact h.py, hk.oky, hnk.perm hpm.symm, ?_, fun c => (nomatch c), fun l hl => ?_⟩
        · show (ents y').length + tombs y' + (ents o').length + (o'.length - (t.m + 8)) / 8 + 2 ≤ y'.length
          rw [hk.ly]
          omega
        · injection hl with hl'
          subst hl'
          exact ⟨by rw [hlen]; exact h1, hk.oko, by show t.m + 8 < _; omega, by show (t.m + 8) % 8 = 0; omega, hk.gone⟩
      exact ⟨hpm, hw.less_s (by decide), fun _ => hw⟩
end
end Go.Proofs.Ytknbehjhaaidoaa.TB

/- What Put and Del make of a table, in plain Lean. No program. -/
namespace Go.Proofs.Ytknbehjhaaidoaa.TB
set_option linter.unusedVariables false
set_option linter.unusedSimpArgs false

section
variable {K V : Type} {hash : K → Nat} {s n : Nat} {t : Tab K V}
theorem WF.room (h : WF hash (s + 1) t) : (ents t.y).length + tombs t.y < t.y.length := by have := h.cap; omega
theorem WF.still (h : WF hash 0 t) (ho : t.o = none) (hc : 4 * ((ents t.y).length + tombs t.y) ≤ 3 * t.y.length) : WF hash 1 t := by
  refine ⟨h.py, h.oky, h.nk, ?_, h.non, h.old⟩
  have := h.py.bd
  have := h.cap
  rw [ho] at this ⊢
  have e1 : (oents (none : Option (List (Slot K V)))).length = 0 := rfl
  have e2 : rest (none : Option (List (Slot K V))) t.m = 0 := rfl
  omega
theorem WF.grown (h : WF hash 0 t) (ho : t.o = none) {n' : Nat} (hp : Pow n') (h1 : t.y.length ≤ n') (h2 : 2 * t.L.length + 2 ≤ n') : WF hash 1 ⟨List.replicate n' .empty, some t.y, 0⟩ ∧ (⟨List.replicate n' .empty, some t.y, 0⟩ : Tab K V).L = t.L := by
  have hL : (⟨List.replicate n' .empty, some t.y, 0⟩ : Tab K V).L = t.L := by
    unfold Tab.L
    rw [ho]
    show ents t.y ++ ents (List.replicate n' (.empty : Slot K V)) = oents none ++ ents t.y
    rw [ents_new, List.append_nil]
    rfl
  have hb := h.py.bd
  have hb2 := hp.bd
  refine ⟨⟨by show Pow (List.replicate n' (.empty : Slot K V)).length; rw [List.length_replicate]; exact hp, Ok.new n', by rw [hL]; exact h.nk, ?_, fun c => (nomatch c), fun l hl => ?_⟩, hL⟩
  · have hl : t.L.length = (ents t.y).length := by
      unfold Tab.L
      rw [ho]
      rfl
    show (ents (List.replicate n' (.empty : Slot K V))).length + tombs (List.replicate n' (.empty : Slot K V)) + (ents t.y).length + (t.y.length - 0) / 8 + 1 ≤ (List.replicate n' (.empty : Slot K V)).length
    rw [ents_new, tombs_new, List.length_replicate, List.length_nil]
    omega
  · injection hl with hl
    subst hl
    exact ⟨h.py, h.oky, by show 0 < _; omega, rfl, fun j k v hj => by exact absurd hj (Nat.not_lt_zero _)⟩
end
section
variable {K V : Type} [DecidableEq K] {hash : K → Nat} {s n : Nat} {t : Tab K V} {k : K} {v v0 : V}
theorem less_cons (L : List (K × V)) (k : K) (v : V) : less ((k, v) :: L) k = less L k := by
  unfold less
  rw [List.filter_cons, if_neg (by simp)]
/-- A row out of which one pair was taken. -/
theorem less_of {L L' : List (K × V)} (hn : NK L) (p : ((k, v0) :: L').Perm L) : L'.Perm (less L k) := by
  have h1 : (k, v0) ∈ L := p.mem_iff.1 (by simp)
  exact ((p.trans (less_yes hn h1))).cons_inv
theorem WF.buryY (h : WF hash s t) (hn : t.y[n]? = some (.full k v0)) : WF hash s ⟨t.y.set n .tomb, t.o, t.m⟩ ∧ (⟨t.y.set n .tomb, t.o, t.m⟩ : Tab K V).L.Perm (less t.L k) := by
  have hp := ents_set t.y n (.full k v0) .tomb hn
  have hl := ents_len_set (y := .tomb) hn
  have ht := tombs_set t.y n (.full k v0) .tomb hn
  simp only [Slot.ent, Option.toList_some, Option.toList_none, List.length_cons, List.length_nil] at hl
  simp only [Slot.isTomb, Bool.toNat_false, Bool.toNat_true] at ht
  have hL : ((k, v0) :: (⟨t.y.set n .tomb, t.o, t.m⟩ : Tab K V).L).Perm t.L := by
    show ((k, v0) :: (oents t.o ++ ents (t.y.set n .tomb))).Perm (oents t.o ++ ents t.y)
    exact List.perm_middle.symm.trans (List.Perm.append_left _ hp)
  have hL2 := less_of h.nk hL
  refine ⟨⟨by show Pow (t.y.set n .tomb).length; rw [List.length_set]; exact h.py, h.oky.bury, (h.nk.less k).perm hL2.symm, ?_, h.non, h.old⟩, hL2⟩
  have := h.cap
  show (ents (t.y.set n .tomb)).length + tombs (t.y.set n .tomb) + (oents t.o).length + rest t.o t.m + s ≤ (t.y.set n .tomb).length
  rw [List.length_set]
  omega
theorem WF.buryO {l : List (Slot K V)} (h : WF hash s t) (ho : t.o = some l) (hn : l[n]? = some (.full k v0)) : WF hash (s + 1) ⟨t.y, some (l.set n .tomb), t.m⟩ ∧ (⟨t.y, some (l.set n .tomb), t.m⟩ : Tab K V).L.Perm (less t.L k) := by
  have hp := ents_set l n (.full k v0) .tomb hn
  have hl := ents_len_set (y := .tomb) hn
  simp only [Slot.ent, Option.toList_some, Option.toList_none, List.length_cons, List.length_nil] at hl
  obtain ⟨h1, h2, h3, h4, h5⟩ := h.old l ho
  have hL : ((k, v0) :: (⟨t.y, some (l.set n .tomb), t.m⟩ : Tab K V).L).Perm t.L := by
    unfold Tab.L
    rw [ho]
    show ((k, v0) :: (ents (l.set n .tomb) ++ ents t.y)).Perm (ents l ++ ents t.y)
    rw [← List.cons_append]
    exact List.Perm.append_right _ hp
  have hL2 := less_of h.nk hL
  refine ⟨⟨h.py, h.oky, (h.nk.less k).perm hL2.symm, ?_, fun c => (nomatch c), fun l' hl' => ?_⟩, hL2⟩
  · have hc := h.cap
    rw [ho] at hc
    have e1 : (oents (some l)).length = (ents l).length := rfl
    have e2 : rest (some l) t.m = (l.length - t.m) / 8 := rfl
    show (ents t.y).length + tombs t.y + (ents (l.set n .tomb)).length + ((l.set n .tomb).length - t.m) / 8 + (s + 1) ≤ t.y.length
    rw [List.length_set]
    omega
  · injection hl' with hl'
    subst hl'
    exact ⟨by rw [List.length_set]; exact h1, h2.bury, by show t.m < _; rw [List.length_set]; exact h3, h4, fun j k' v' hj hx => h5 j k' v' hj (set_tomb hx).2⟩
theorem WF.replace (h : WF hash s t) (hn : t.y[n]? = some (.full k v0)) (v : V) : WF hash s ⟨t.y.set n (.full k v), t.o, t.m⟩ ∧ (⟨t.y.set n (.full k v), t.o, t.m⟩ : Tab K V).L.Perm ((k, v) :: less t.L k) := by
  have hp := ents_set t.y n (.full k v0) (.full k v) hn
  have hl := ents_len_set (y := .full k v) hn
  have ht := tombs_set t.y n (.full k v0) (.full k v) hn
  simp only [Slot.ent, Option.toList_some, List.length_cons, List.length_nil] at hl
  simp only [Slot.isTomb, Bool.toNat_false] at ht
  have hL : ((k, v0) :: (⟨t.y.set n (.full k v), t.o, t.m⟩ : Tab K V).L).Perm ((k, v) :: t.L) := by
    show ((k, v0) :: (oents t.o ++ ents (t.y.set n (.full k v)))).Perm ((k, v) :: (oents t.o ++ ents t.y))
    exact List.perm_middle.symm.trans ((List.Perm.append_left _ hp).trans List.perm_middle)
  have hmem : (k, v0) ∈ t.L := by
    unfold Tab.L
    exact List.mem_append_right _ (mem_ents.2 ⟨n, hn⟩)
  have hL2 : (⟨t.y.set n (.full k v), t.o, t.m⟩ : Tab K V).L.Perm ((k, v) :: less t.L k) :=
    (hL.trans (((less_yes h.nk hmem).cons (k, v)).trans (List.Perm.swap _ _ _))).cons_inv
  obtain ⟨e, he, hw⟩ := h.oky n k v0 hn
  refine ⟨⟨by show Pow (t.y.set n (.full k v)).length; rw [List.length_set]; exact h.py, h.oky.lay ⟨e, he, hw⟩, (h.nk.put k v).perm hL2.symm, ?_, h.non, h.old⟩, hL2⟩
  have := h.cap
  show (ents (t.y.set n (.full k v))).length + tombs (t.y.set n (.full k v)) + (oents t.o).length + rest t.o t.m + s ≤ (t.y.set n (.full k v)).length
  rw [List.length_set]
  omega
theorem WF.lay (h : WF hash (s + 1) t) (hk : ∀ v, (k, v) ∉ t.L) (v : V) : WF hash s ⟨TB.lay hash t.y k v, t.o, t.m⟩ ∧ (⟨TB.lay hash t.y k v, t.o, t.m⟩ : Tab K V).L.Perm ((k, v) :: t.L) := by
  have hky : ∀ v, (k, v) ∉ ents t.y := fun v hv => hk v (by unfold Tab.L; exact List.mem_append_right _ hv)
  obtain ⟨g, d, x, h1, h2, h3, h4, h5, h6, h7, h8, h9⟩ := lay_is (v := v) h.oky hky h.room
  have hL : (⟨TB.lay hash t.y k v, t.o, t.m⟩ : Tab K V).L.Perm ((k, v) :: t.L) := by
    show (oents t.o ++ ents (TB.lay hash t.y k v)).Perm ((k, v) :: (oents t.o ++ ents t.y))
    exact (List.Perm.append_left _ h6).trans List.perm_middle
  refine ⟨⟨by show Pow (TB.lay hash t.y k v).length; rw [h9]; exact h.py, h5, ?_, ?_, h.non, h.old⟩, hL⟩
  · have hn := h.nk.put k v
    rw [less_no hk] at hn
    exact hn.perm hL.symm
  · have := h.cap
    show (ents (TB.lay hash t.y k v)).length + tombs (TB.lay hash t.y k v) + (oents t.o).length + rest t.o t.m + s ≤ (TB.lay hash t.y k v).length
    rw [h9]
    omega
end
end Go.Proofs.Ytknbehjhaaidoaa.TB

