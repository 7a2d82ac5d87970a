/- A table with open addressing that grows step by step, in plain Lean: its slots, a key's way, laying, burying. No program. -/
import Derived.Lib.Hide
namespace Go.Proofs.Ytknbehjhaaidoaa.TB
set_option linter.unusedVariables false
set_option linter.unusedSimpArgs false

/-- What lies in a slot. -/
inductive Slot (K V : Type) where
  | empty
  | tomb
  | full (k : K) (v : V)

section
variable {K V : Type}
def Slot.ent : Slot K V → Option (K × V)
  | .full k v => some (k, v)
  | _ => none
def Slot.isTomb : Slot K V → Bool
  | .tomb => true
  | _ => false
/-- The pairs, by their slots. -/
def ents (l : List (Slot K V)) : List (K × V) := l.filterMap Slot.ent
def tombs (l : List (Slot K V)) : Nat := l.countP Slot.isTomb
theorem ents_nil : ents ([] : List (Slot K V)) = [] := rfl
theorem ents_cons (a : Slot K V) (l : List (Slot K V)) : ents (a :: l) = a.ent.toList ++ ents l := by
  unfold ents
  rw [List.filterMap_cons]
  cases a.ent <;> rfl
theorem mem_ents {l : List (Slot K V)} {k : K} {v : V} : (k, v) ∈ ents l ↔ ∃ n : Nat, l[n]? = some (.full k v) := by
  unfold ents
  rw [List.mem_filterMap]
  constructor
  · rintro ⟨x, hx, he⟩
    obtain ⟨n, hn⟩ := List.mem_iff_getElem?.1 hx
    refine ⟨n, ?_⟩
    rw [hn]
    cases x with
    | empty => cases he
    | tomb => cases he
    | full k' v' => injection he with he; injection he with h1 h2; rw [h1, h2]
  · rintro ⟨n, hn⟩
    exact ⟨_, List.mem_iff_getElem?.2 ⟨n, hn⟩, rfl⟩
theorem ents_set : ∀ (l : List (Slot K V)) (n : Nat) (x y : Slot K V), l[n]? = some x → (x.ent.toList ++ ents (l.set n y)).Perm (y.ent.toList ++ ents l)
  | [], n, x, y, h => by simp at h
  | a :: l, 0, x, y, h => by
    simp at h
    subst h
    rw [List.set_cons_zero, ents_cons, ents_cons, ← List.append_assoc, ← List.append_assoc]
    exact List.Perm.append_right _ List.perm_append_comm
  | a :: l, n + 1, x, y, h => by
    have ih := ents_set l n x y (by simpa using h)
    rw [List.set_cons_succ, ents_cons, ents_cons]
    have h1 : (x.ent.toList ++ (a.ent.toList ++ ents (l.set n y))).Perm (a.ent.toList ++ (x.ent.toList ++ ents (l.set n y))) := by
      rw [← List.append_assoc, ← List.append_assoc]
      exact List.Perm.append_right _ List.perm_append_comm
    have h2 : (a.ent.toList ++ (y.ent.toList ++ ents l)).Perm (y.ent.toList ++ (a.ent.toList ++ ents l)) := by
      rw [← List.append_assoc, ← List.append_assoc]
      exact List.Perm.append_right _ List.perm_append_comm
    exact h1.trans ((List.Perm.append_left _ ih).trans h2)
theorem tombs_set : ∀ (l : List (Slot K V)) (n : Nat) (x y : Slot K V), l[n]? = some x → tombs (l.set n y) + x.isTomb.toNat = tombs l + y.isTomb.toNat
  | [], n, x, y, h => by simp at h
  | a :: l, 0, x, y, h => by
    simp at h
    subst h
    unfold tombs
    rw [List.set_cons_zero, List.countP_cons, List.countP_cons]
    cases a.isTomb <;> cases y.isTomb <;> simp <;> omega
  | a :: l, n + 1, x, y, h => by
    have ih := tombs_set l n x y (by simpa using h)
    unfold tombs at ih ⊢
    rw [List.set_cons_succ, List.countP_cons, List.countP_cons]
    omega
theorem ents_len_set {l : List (Slot K V)} {n : Nat} {x y : Slot K V} (h : l[n]? = some x) : (ents (l.set n y)).length + x.ent.toList.length = (ents l).length + y.ent.toList.length := by
  have := (ents_set l n x y h).length_eq
  simp only [List.length_append] at this
  omega
theorem ents_all : ∀ (l : List (Slot K V)), (∀ x ∈ l, ∃ k v, x = .full k v) → (ents l).length = l.length
  | [], _ => rfl
  | a :: l, h => by
    obtain ⟨k, v, rfl⟩ := h a (by simp)
    rw [ents_cons]
    have := ents_all l (fun x hx => h x (by simp [hx]))
    simp [Slot.ent]
    omega
theorem ents_le : ∀ (l : List (Slot K V)), (ents l).length + tombs l ≤ l.length
  | [] => Nat.le_refl _
  | a :: l => by
    have := ents_le l
    rw [ents_cons, List.length_append, List.length_cons]
    unfold tombs at this ⊢
    rw [List.countP_cons]
    cases a <;> simp [Slot.ent, Slot.isTomb] <;> omega
/-- No empty slot stands on the first i places of the way. -/
def Chain (l : List (Slot K V)) (h i : Nat) : Prop := ∀ j, j < i → ∃ x, l[(h + j) % l.length]? = some x ∧ x ≠ .empty
/-- The way comes to slot n. -/
def Way (l : List (Slot K V)) (h e n : Nat) : Prop := (h + e) % l.length = n ∧ Chain l h e
theorem round {N : Nat} (hN : 0 < N) (h n : Nat) (hn : n < N) : ∃ j, j < N ∧ (h + j) % N = n := by
  have hh := Nat.mod_lt h hN
  refine ⟨(n + (N - h % N)) % N, Nat.mod_lt _ hN, ?_⟩
  rw [Nat.add_mod, Nat.mod_mod, ← Nat.add_mod, Nat.add_mod, Nat.add_mod n]
  rw [← Nat.add_mod n, ← Nat.add_mod]
  have e : h + (n + (N - h % N)) = n + N * (h / N + 1) := by
    have := Nat.div_add_mod h N
    rw [Nat.mul_add, Nat.mul_one]
    omega
  rw [e, Nat.add_mul_mod_self_left, Nat.mod_eq_of_lt hn]
/-- Every key's way comes to its slot. -/
def Ok (hash : K → Nat) (l : List (Slot K V)) : Prop := ∀ (n : Nat) (k : K) (v : V), l[n]? = some (.full k v) → ∃ e, e < l.length ∧ Way l (hash k) e n
def NK (L : List (K × V)) : Prop := (L.map Prod.fst).Nodup
theorem NK.one {L : List (K × V)} (h : NK L) {k : K} {v v' : V} (h1 : (k, v) ∈ L) (h2 : (k, v') ∈ L) : v = v' := by
  induction L with
  | nil => cases h1
  | cons a L ih =>
    have h3 := List.nodup_cons.1 h
    rcases List.mem_cons.1 h1 with e1 | e1 <;> rcases List.mem_cons.1 h2 with e2 | e2
    · rw [← e1] at e2; injection e2 with _ e2; exact e2.symm
    · exact absurd (List.mem_map.2 ⟨_, e2, by rw [← e1]⟩) h3.1
    · exact absurd (List.mem_map.2 ⟨_, e1, by rw [← e2]⟩) h3.1
    · exact ih h3.2 e1 e2
theorem NK.perm {L L' : List (K × V)} (h : NK L) (p : L.Perm L') : NK L' := (p.map Prod.fst).nodup_iff.1 h
/-! ### Laying, burying -/
theorem Way.set {l : List (Slot K V)} {h e n f : Nat} {y : Slot K V} (w : Way l h e n) (hy : y ≠ .empty) : Way (l.set f y) h e n := by
  refine ⟨by rw [List.length_set]; exact w.1, fun j hj => ?_⟩
  obtain ⟨x, hx, hne⟩ := w.2 j hj
  rw [List.length_set, List.getElem?_set]
  split
  · next e1 =>
    have hlt := (List.getElem?_eq_some_iff.1 hx).1
    rw [if_pos (by rw [e1]; exact hlt)]
    exact ⟨y, rfl, hy⟩
  · exact ⟨x, hx, hne⟩
theorem Ok.lay {hash : K → Nat} {l : List (Slot K V)} (ok : Ok hash l) {k : K} {v : V} {g : Nat} (hg : ∃ e, e < l.length ∧ Way l (hash k) e g) : Ok hash (l.set g (.full k v)) := by
  intro n k' v' hn
  rw [List.length_set]
  rw [List.getElem?_set] at hn
  split at hn
  · next e1 =>
    split at hn
    · injection hn with hn
      injection hn with h1 h2
      subst h1 e1
      obtain ⟨e, he, hw⟩ := hg
      exact ⟨e, he, hw.set (by simp)⟩
    · cases hn
  · obtain ⟨e, he, hw⟩ := ok n k' v' hn
    exact ⟨e, he, hw.set (by simp)⟩
theorem Ok.bury {hash : K → Nat} {l : List (Slot K V)} (ok : Ok hash l) {g : Nat} : Ok hash (l.set g .tomb) := by
  intro n k' v' hn
  rw [List.length_set]
  rw [List.getElem?_set] at hn
  split at hn
  · split at hn
    · injection hn with hn
      cases hn
    · cases hn
  · obtain ⟨e, he, hw⟩ := ok n k' v' hn
    exact ⟨e, he, hw.set (by simp)⟩
theorem Ok.new {hash : K → Nat} (n : Nat) : Ok hash (List.replicate n (.empty : Slot K V)) := by
  intro m k v h
  rw [List.getElem?_replicate] at h
  split at h
  · injection h with h; cases h
  · cases h
theorem ents_new (n : Nat) : ents (List.replicate n (.empty : Slot K V)) = [] := by
  induction n with
  | zero => rfl
  | succ n ih => rw [List.replicate_succ, ents_cons, ih]; rfl
theorem tombs_new (n : Nat) : tombs (List.replicate n (.empty : Slot K V)) = 0 := by
  unfold tombs
  rw [List.countP_replicate]
  rfl
end
section
variable {K V : Type} [DecidableEq K]
/-! ### A key's way -/

def probe (l : List (Slot K V)) (h : Nat) (k : K) : Nat → Nat → Option Nat → Option Nat × Option Nat × Nat
  | 0, i, f => (none, f, i)
  | r + 1, i, f =>
    match l[(h + i) % l.length]? with
    | some .tomb => probe l h k r (i + 1) (some (f.getD ((h + i) % l.length)))
    | some (.full k' _) => if k' = k then (some ((h + i) % l.length), f, i + 1) else probe l h k r (i + 1) f
    | _ => (none, some (f.getD ((h + i) % l.length)), i + 1)
def find (l : List (Slot K V)) (h : Nat) (k : K) : Option Nat × Option Nat × Nat := probe l h k l.length 0 none
theorem probe_at {l : List (Slot K V)} {h : Nat} {k : K} : ∀ (r i : Nat) (f : Option Nat) (n : Nat) (g : Option Nat) (d : Nat), probe l h k r i f = (some n, g, d) → ∃ v, l[n]? = some (.full k v)
  | 0, i, f, n, g, d, hp => by cases hp
  | r + 1, i, f, n, g, d, hp => by
    unfold probe at hp
    split at hp
    · exact probe_at r _ _ _ _ _ hp
    · next k' v' hs =>
      split at hp
      · next hk =>
        injection hp with h1 h2
        injection h1 with h1
        subst hk h1
        exact ⟨_, hs⟩
      · exact probe_at r _ _ _ _ _ hp
    · cases hp
theorem probe_none {l : List (Slot K V)} {h : Nat} {k : K} : ∀ (r i : Nat) (f g : Option Nat) (d : Nat), probe l h k r i f = (none, g, d) → ∀ e n v, i ≤ e → e < i + r → Way l h e n → l[n]? ≠ some (.full k v)
  | 0, i, f, g, d, hp, e, n, v, h1, h2, hw => by omega
  | r + 1, i, f, g, d, hp, e, n, v, h1, h2, hw => by
    intro hn
    unfold probe at hp
    by_cases hie : i = e
    · subst hie
      rw [hw.1, hn] at hp
      simp at hp
    · split at hp
      · exact probe_none r _ _ _ _ hp e n v (by omega) (by omega) hw hn
      · split at hp
        · cases hp
        · exact probe_none r _ _ _ _ hp e n v (by omega) (by omega) hw hn
      · next h3 h4 =>
        obtain ⟨x, hx, hne⟩ := hw.2 i (by omega)
        rw [hx] at h3 h4
        cases x with
        | empty => exact hne rfl
        | tomb => exact h3 rfl
        | full k' v' => exact h4 _ _ rfl
theorem probe_free {l : List (Slot K V)} {h : Nat} {k : K} (hl : 0 < l.length) : ∀ (r i : Nat) (f : Option Nat) (g d : Nat), Chain l h i → probe l h k r i f = (none, some g, d) →
    f = some g ∨ ∃ e, i ≤ e ∧ e < i + r ∧ Way l h e g ∧ (l[g]? = some .empty ∨ l[g]? = some .tomb)
  | 0, i, f, g, d, hc, hp => by
    injection hp with h1 h2
    injection h2 with h2 h3
    exact .inl h2
  | r + 1, i, f, g, d, hc, hp => by
    unfold probe at hp
    have hc2 : ∀ x, l[(h + i) % l.length]? = some x → x ≠ .empty → Chain l h (i + 1) := fun x hx hne j hj => by
      by_cases hji : j = i
      · exact ⟨x, by rw [hji]; exact hx, hne⟩
      · exact hc j (by omega)
    split at hp
    · next hs =>
      rcases probe_free hl r _ _ _ _ (hc2 _ hs (by simp)) hp with h1 | ⟨e, h1, h2, h3, h4⟩
      · injection h1 with h1
        cases f with
        | some f0 => exact .inl (by rw [← h1]; rfl)
        | none => exact .inr ⟨i, Nat.le_refl _, by omega, ⟨h1, hc⟩, .inr (by rw [← h1]; exact hs)⟩
      · exact .inr ⟨e, by omega, by omega, h3, h4⟩
    · next k' v' hs =>
      split at hp
      · cases hp
      · rcases probe_free hl r _ _ _ _ (hc2 _ hs (by simp)) hp with h1 | ⟨e, h1, h2, h3, h4⟩
        · exact .inl h1
        · exact .inr ⟨e, by omega, by omega, h3, h4⟩
    · next h3 h4 =>
      injection hp with h1 h2
      injection h2 with h2 h5
      injection h2 with h2
      cases f with
      | some f0 => exact .inl (by rw [← h2]; rfl)
      | none =>
        refine .inr ⟨i, Nat.le_refl _, by omega, ⟨h2, hc⟩, .inl ?_⟩
        have h6 : (h + i) % l.length < l.length := Nat.mod_lt _ hl
        rw [← h2]
        show l[(h + i) % l.length]? = _
        rw [List.getElem?_eq_getElem h6] at h3 h4 ⊢
        cases hx : l[(h + i) % l.length] with
        | empty => rfl
        | tomb => rw [hx] at h3; exact absurd rfl h3
        | full k' v' => rw [hx] at h4; exact absurd rfl (h4 _ _)
theorem probe_full {l : List (Slot K V)} {h : Nat} {k : K} : ∀ (r i : Nat) (f : Option Nat) (d : Nat), probe l h k r i f = (none, none, d) → ∀ j, i ≤ j → j < i + r → ∃ k' v', l[(h + j) % l.length]? = some (.full k' v')
  | 0, i, f, d, hp, j, h1, h2 => by omega
  | r + 1, i, f, d, hp, j, h1, h2 => by
    unfold probe at hp
    have hn : ∀ (r i d x : Nat), probe l h k r i (some x) ≠ (none, none, d) := by
      intro r
      induction r with
      | zero => intro i d x hp; cases hp
      | succ r ih =>
        intro i d x hp
        unfold probe at hp
        split at hp
        · exact ih _ _ _ hp
        · split at hp
          · cases hp
          · exact ih _ _ _ hp
        · cases hp
    split at hp
    · exact absurd hp (hn _ _ _ _)
    · next k' v' hs =>
      split at hp
      · cases hp
      · by_cases hij : i = j
        · exact ⟨k', v', by rw [← hij]; exact hs⟩
        · exact probe_full r _ _ _ hp j (by omega) (by omega)
    · cases hp
/-- All but a key. -/
def less (L : List (K × V)) (k : K) : List (K × V) := L.filter fun p => decide (p.1 ≠ k)
theorem less_no {L : List (K × V)} {k : K} (h : ∀ v, (k, v) ∉ L) : less L k = L := by
  unfold less
  refine List.filter_eq_self.2 fun p hp => decide_eq_true fun e => ?_
  refine h p.2 ?_
  rw [← e]
  exact hp
theorem less_yes {L : List (K × V)} {k : K} {v : V} (hn : NK L) (h : (k, v) ∈ L) : L.Perm ((k, v) :: less L k) := by
  induction L with
  | nil => cases h
  | cons a L ih =>
    have h3 := List.nodup_cons.1 hn
    unfold less
    rw [List.filter_cons]
    rcases List.mem_cons.1 h with e1 | e1
    · subst e1
      simp only [ne_eq, not_true_eq_false, decide_false, Bool.false_eq_true, if_false]
      refine List.Perm.cons _ ?_
      have : less L k = L := less_no fun v' hv => h3.1 (List.mem_map.2 ⟨_, hv, rfl⟩)
      unfold less at this
      rw [this]
    · have hne : a.1 ≠ k := fun e => h3.1 (List.mem_map.2 ⟨_, e1, e.symm⟩)
      rw [if_pos (decide_eq_true hne)]
      exact (List.Perm.cons a (ih h3.2 e1)).trans (List.Perm.swap _ _ _)
theorem less_perm {L L' : List (K × V)} (p : L.Perm L') (k : K) : (less L k).Perm (less L' k) := p.filter _
theorem less_mem {L : List (K × V)} {k k' : K} {v : V} : (k', v) ∈ less L k ↔ (k', v) ∈ L ∧ k' ≠ k := by
  unfold less
  rw [List.mem_filter]
  simp
theorem NK.less {L : List (K × V)} (h : NK L) (k : K) : NK (less L k) := List.Nodup.sublist (List.Sublist.map _ List.filter_sublist) h
theorem NK.put {L : List (K × V)} (h : NK L) (k : K) (v : V) : NK ((k, v) :: TB.less L k) := by
  refine List.nodup_cons.2 ⟨fun hm => ?_, h.less k⟩
  obtain ⟨p, hp, e⟩ := List.mem_map.1 hm
  exact (less_mem.1 (show (p.1, p.2) ∈ TB.less L k from hp)).2 e
/-! ### Looking up -/
theorem find_way {hash : K → Nat} {l : List (Slot K V)} (ok : Ok hash l) (hl : 0 < l.length) (k : K) :
    (∃ n g d v, find l (hash k) k = (some n, g, d) ∧ l[n]? = some (.full k v)) ∨ (∃ g d, find l (hash k) k = (none, g, d) ∧ ∀ v, (k, v) ∉ ents l) := by
  unfold find
  rcases hp : probe l (hash k) k l.length 0 none with ⟨a, g, d⟩
  cases a with
  | some n =>
    obtain ⟨v, hv⟩ := probe_at _ _ _ _ _ _ hp
    exact .inl ⟨n, g, d, v, rfl, hv⟩
  | none =>
    refine .inr ⟨g, d, rfl, fun v hm => ?_⟩
    obtain ⟨n, hn⟩ := mem_ents.1 hm
    obtain ⟨e, he, hw⟩ := ok n k v hn
    exact probe_none _ _ _ _ _ hp e n v (Nat.zero_le _) (by omega) hw hn
theorem find_yes {hash : K → Nat} {l : List (Slot K V)} (ok : Ok hash l) (hl : 0 < l.length) (hn : NK (ents l)) {k : K} {v : V} (h : (k, v) ∈ ents l) :
    ∃ n g d, find l (hash k) k = (some n, g, d) ∧ l[n]? = some (.full k v) := by
  rcases find_way ok hl k with ⟨n, g, d, v', h1, h2⟩ | ⟨g, d, _, h2⟩
  · have := hn.one (mem_ents.2 ⟨n, h2⟩) h
    subst this
    exact ⟨n, g, d, h1, h2⟩
  · exact absurd h (h2 v)
theorem find_no {hash : K → Nat} {l : List (Slot K V)} (ok : Ok hash l) {k : K} (h : ∀ v, (k, v) ∉ ents l) (hu : (ents l).length + tombs l < l.length) :
    ∃ g d, find l (hash k) k = (none, some g, d) ∧ (∃ e, e < l.length ∧ Way l (hash k) e g) ∧ (l[g]? = some .empty ∨ l[g]? = some .tomb) := by
  have hl : 0 < l.length := by omega
  rcases find_way ok hl k with ⟨n, g, d, v', h1, h2⟩ | ⟨g, d, h1, h2⟩
  · exact absurd (mem_ents.2 ⟨n, h2⟩) (h v')
  · cases g with
    | some g =>
      rcases probe_free hl _ _ _ _ _ (fun j hj => by omega) h1 with h3 | ⟨e, _, h4, h5, h6⟩
      · cases h3
      · exact ⟨g, d, h1, ⟨e, by omega, h5⟩, h6⟩
    | none =>
      exfalso
      have h3 := probe_full _ _ _ _ h1
      have : (ents l).length = l.length := ents_all l fun x hx => by
        obtain ⟨n, hn⟩ := List.mem_iff_getElem?.1 hx
        have hnl : n < l.length := (List.getElem?_eq_some_iff.1 hn).1
        obtain ⟨j, hj, e⟩ := round hl (hash k) n hnl
        obtain ⟨k', v', h4⟩ := h3 j (Nat.zero_le _) (by omega)
        rw [e, hn] at h4
        injection h4 with h4
        exact ⟨k', v', h4⟩
      omega
end
end Go.Proofs.Ytknbehjhaaidoaa.TB
