/- Buckets by time: they fall with it; the document's and the program's tell the same apart. Plain Lean. -/
import Derived.Test.YtoncjoelkenjnaaPrB
namespace Go.Proofs.Ytoncjoelkenjnaa.PL
open Go.RowKit Mem Go.Proofs.Ytoncjoelkenjnaa.Days Go.Proofs.Ytoncjoelkenjnaa.SS
set_option linter.unusedVariables false
set_option linter.unusedSimpArgs false

theorem cum_mono (y m : Int) (h1 : 1 ≤ m) : ∀ k : Nat, m + k ≤ 13 → Cal.cum y m ≤ Cal.cum y (m + k) := by
  intro k
  induction k with
  | zero => intro _; simp
  | succ k ih =>
    intro h
    have h2 := ih (by omega)
    have h3 := Cal.cum_succ y (m + k) (by omega) (by omega)
    have h4 := Cal.mlen_bd y (m + k)
    rw [show m + ((k + 1 : Nat) : Int) = m + k + 1 by omega]
    omega
theorem day_lex {n n' : Int} (h0 : -719162 ≤ n) (h : n ≤ n') : Cal.dyear n < Cal.dyear n' ∨ (Cal.dyear n = Cal.dyear n' ∧ Cal.dmonth n ≤ Cal.dmonth n') := by
  obtain ⟨v, c⟩ := Cal.day_valid n h0
  obtain ⟨v', c'⟩ := Cal.day_valid n' (by omega)
  generalize Cal.dyear n = y at *
  generalize Cal.dmonth n = m at *
  generalize Cal.dday n = d at *
  generalize Cal.dyear n' = y' at *
  generalize Cal.dmonth n' = m' at *
  generalize Cal.dday n' = d' at *
  rcases Int.lt_trichotomy y y' with hy | hy | hy
  · exact .inl hy
  · subst hy
    refine .inr ⟨rfl, ?_⟩
    rcases Int.lt_or_le m' m with hm | hm
    · exfalso
      have h1 := cum_mono y (m' + 1) (by have := v'.1; omega) (m - (m' + 1)).toNat (by have := v.2.1; omega)
      rw [show m' + 1 + (((m - (m' + 1)).toNat : Nat) : Int) = m by omega] at h1
      have h2 := Cal.cum_succ y m' v'.1 v'.2.1
      have h3 := v'.2.2.2
      have h4 := v.2.2.1
      unfold Cal.count at c c'
      omega
    · exact hm
  · exfalso
    have h1 := (Cal.count_bd _ _ _ v).1
    have h2 := (Cal.count_bd _ _ _ v').2
    have h3 := Cal.upTo_mono (y' + 1) y (by omega)
    omega
theorem rb_mono {k : Nat} {t t' : Int} (h0 : -62135596800 ≤ t) (h : t ≤ t') (h2 : t' ≤ 253402300799) : rb k t ≤ rb k t' := by
  have hd := day_lex (n := t / 86400) (n' := t' / 86400) (by omega) (by omega)
  obtain ⟨_, _, m1, m2⟩ := day_fields (n := t / 86400) (by omega) (by omega)
  obtain ⟨_, _, m3, m4⟩ := day_fields (n := t' / 86400) (by omega) (by omega)
  unfold rb
  split
  · omega
  · split
    · omega
    · split
      · omega
      · split <;> omega
theorem rb_same {k : Nat} (hk : 1 ≤ k) (hk5 : k ≤ 5) {t t' : Int} (p p' : Int) (h0 : -62135596800 ≤ t) (h1 : t ≤ 253402300799) (h2 : -62135596800 ≤ t') (h3 : t' ≤ 253402300799) : rb k t = rb k t' ↔ pb k p t = pb k p' t' := by
  obtain ⟨_, _, m1, m2⟩ := day_fields (n := t / 86400) (by omega) (by omega)
  obtain ⟨_, _, m3, m4⟩ := day_fields (n := t' / 86400) (by omega) (by omega)
  match k, hk, hk5 with
  | 1, _, _ => exact Iff.rfl
  | 2, _, _ => exact Iff.rfl
  | 3, _, _ => show (t + 62135596800) / 604800 = (t' + 62135596800) / 604800 ↔ (t / 86400 + 3) / 7 = (t' / 86400 + 3) / 7; omega
  | 4, _, _ => show 100 * Cal.dyear (t / 86400) + Cal.dmonth (t / 86400) = 100 * Cal.dyear (t' / 86400) + Cal.dmonth (t' / 86400) ↔ 12 * Cal.dyear (t / 86400) + Cal.dmonth (t / 86400) = 12 * Cal.dyear (t' / 86400) + Cal.dmonth (t' / 86400); omega
  | 5, _, _ => exact Iff.rfl
/-- What the document has seen of a part, ahead of place a. -/
def SeenOK (tm : Nat → Int) (q a : Nat) (last : Int) (prev : Option Nat) (L : List Int) : Prop :=
  L.length ≤ 70 ∧ (q = 0 → L = [] ∧ (0 < a → last = (a : Int) - 1)) ∧ (a = 0 → L = []) ∧ (0 < a → 1 ≤ q → ∃ i L', prev = some i ∧ L = L' ++ [rb q (tm i)] ∧ (∀ s ∈ L, rb q (tm i) ≤ s) ∧ ∃ p, last = pb q p (tm i))
theorem SeenOK.start (tm : Nat → Int) (q : Nat) : SeenOK tm q 0 0 none [] := ⟨by decide, fun _ => ⟨rfl, fun h => by omega⟩, fun _ => rfl, fun h => by omega⟩
/-- Fresh, as the document sees it and as the program sees it. -/
theorem SeenOK.fresh {tm : Nat → Int} {q a : Nat} {last : Int} {prev : Option Nat} {L : List Int} (h : SeenOK tm q a last prev L) (hq : 1 ≤ q) (hq5 : q ≤ 5) {i : Nat} (hi : -62135596800 ≤ tm i ∧ tm i ≤ 253402300799) (hp : ∀ j, prev = some j → tm i ≤ tm j ∧ -62135596800 ≤ tm j ∧ tm j ≤ 253402300799) :
    (∀ s ∈ L, s ≠ rb q (tm i)) ↔ (a = 0 ∨ pb q (a : Int) (tm i) ≠ last) := by
  rcases Nat.eq_zero_or_pos a with ha | ha
  · rw [h.2.2.1 ha]
    simp [ha]
  · obtain ⟨j, L', hj, hL, hall, p, hlast⟩ := h.2.2.2 ha hq
    obtain ⟨h1, h2, h3⟩ := hp j hj
    have hs := rb_same hq hq5 (a : Int) p hi.1 hi.2 h2 h3
    have hm := rb_mono (k := q) hi.1 h1 h3
    rw [hlast]
    constructor
    · intro hh
      refine .inr fun he => ?_
      exact hh (rb q (tm j)) (by rw [hL]; simp) (hs.2 he).symm
    · rintro (hh | hh) s hs2 he
      · omega
      · have h4 := hall s hs2
        exact hh (hs.1 (by omega))
/-- One more, that is fresh: behind the others, the first one gone or not. -/
theorem SeenOK.next {tm : Nat → Int} {q a : Nat} {last : Int} {prev : Option Nat} {L L2 : List Int} (h : SeenOK tm q a last prev L) (hq : 1 ≤ q) {i : Nat} (hi : -62135596800 ≤ tm i) (hp : ∀ j, prev = some j → tm i ≤ tm j ∧ -62135596800 ≤ tm j ∧ tm j ≤ 253402300799) (hsub : ∀ s ∈ L2, s ∈ L) (hlen : L2.length ≤ 69) :
    SeenOK tm q (a + 1) (pb q (a : Int) (tm i)) (some i) (L2 ++ [rb q (tm i)]) := by
  refine ⟨by rw [List.length_append]; simp; omega, fun h0 => by omega, fun h0 => by omega, fun _ _ => ⟨i, L2, rfl, rfl, fun s hs => ?_, _, rfl⟩⟩
  rcases List.mem_append.1 hs with hs | hs
  · have hs2 := hsub s hs
    rcases Nat.eq_zero_or_pos a with ha | ha
    · rw [h.2.2.1 ha] at hs2; cases hs2
    · obtain ⟨j, L', hj, hL, hall, p, hlast⟩ := h.2.2.2 ha hq
      obtain ⟨h1, h2, h3⟩ := hp j hj
      have := rb_mono (k := q) hi h1 h3
      have := hall s hs2
      omega
  · rw [List.mem_singleton.1 hs]; exact Int.le_refl _
/-- One that is not. -/
theorem SeenOK.same {tm : Nat → Int} {q a : Nat} {last : Int} {prev : Option Nat} {L : List Int} (h : SeenOK tm q a last prev L) (hq : 1 ≤ q) (hq5 : q ≤ 5) {i : Nat} (hi : -62135596800 ≤ tm i ∧ tm i ≤ 253402300799) (hp : ∀ j, prev = some j → tm i ≤ tm j ∧ -62135596800 ≤ tm j ∧ tm j ≤ 253402300799) (hn : ¬ (a = 0 ∨ pb q (a : Int) (tm i) ≠ last)) :
    SeenOK tm q (a + 1) (pb q (a : Int) (tm i)) (some i) L := by
  have ha : 0 < a := by rcases Nat.eq_zero_or_pos a with c | c; exact absurd (.inl c) hn; exact c
  have he : pb q (a : Int) (tm i) = last := Classical.byContradiction fun c => hn (.inr c)
  obtain ⟨j, L', hj, hL, hall, p, hlast⟩ := h.2.2.2 ha hq
  obtain ⟨h1, h2, h3⟩ := hp j hj
  have hs := (rb_same hq hq5 (a : Int) p hi.1 hi.2 h2 h3).2 (by rw [he, hlast])
  exact ⟨h.1, fun h0 => by omega, fun h0 => by omega, fun _ _ => ⟨i, L', rfl, by rw [hs]; exact hL, fun s hs2 => by rw [hs]; exact hall s hs2, _, rfl⟩⟩
theorem SeenOK.zero {tm : Nat → Int} {a : Nat} {last : Int} {prev : Option Nat} {L : List Int} (h : SeenOK tm 0 a last prev L) {i : Nat} : SeenOK tm 0 (a + 1) (pb 0 (a : Int) (tm i)) (some i) L ∧ L = [] ∧ (a = 0 ∨ pb 0 (a : Int) (tm i) ≠ last) := by
  obtain ⟨h1, h2⟩ := h.2.1 rfl
  refine ⟨⟨h.1, fun _ => ⟨h1, fun _ => ?_⟩, fun h0 => by omega, fun _ h0 => by omega⟩, h1, ?_⟩
  · show (a : Int) = ((a + 1 : Nat) : Int) - 1
    omega
  · rcases Nat.eq_zero_or_pos a with ha | ha
    · exact .inl ha
    · right
      rw [h2 ha]
      show (a : Int) ≠ (a : Int) - 1
      omega
end Go.Proofs.Ytoncjoelkenjnaa.PL
