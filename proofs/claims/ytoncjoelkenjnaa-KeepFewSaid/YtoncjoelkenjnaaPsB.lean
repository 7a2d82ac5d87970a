/- The law KeepPlans. -/
import Derived.Test.YtoncjoelkenjnaaPsA
import Derived.Test.YtoncjoelkenjnaaPrD
namespace Go.Proofs.Ytoncjoelkenjnaa.PL
open Go.RowKit Mem Go.Proofs.Ytoncjoelkenjnaa.Days Go.Proofs.Ytoncjoelkenjnaa.SS
set_option linter.unusedVariables false
set_option linter.unusedSimpArgs false

/-- The cells of the shots. -/
def sx (nm : Nat → ByteArray) (tm : Nat → Int) : Nat → List Value
  | 0 => []
  | n + 1 => sx nm tm n ++ [.string (nm n), .int .i64 (tm n)]
theorem sx_len (nm : Nat → ByteArray) (tm : Nat → Int) (n : Nat) : (sx nm tm n).length = n * 2 := by
  induction n with
  | zero => rfl
  | succ n ih => unfold sx; rw [List.length_append, ih]; simp; omega
theorem sx_get (nm : Nat → ByteArray) (tm : Nat → Int) : ∀ (n i : Nat), i < n → (sx nm tm n)[i * 2]? = some (.string (nm i)) ∧ (sx nm tm n)[i * 2 + 1]? = some (.int .i64 (tm i)) := by
  intro n
  induction n with
  | zero => intro i h; omega
  | succ n ih =>
    intro i h
    unfold sx
    have hl := sx_len nm tm n
    rcases Nat.lt_or_ge i n with c | c
    · obtain ⟨h1, h2⟩ := ih i c
      rw [List.getElem?_append_left (by omega), List.getElem?_append_left (by omega)]
      exact ⟨h1, h2⟩
    · obtain rfl : i = n := by omega
      rw [List.getElem?_append_right (by omega), List.getElem?_append_right (by omega), hl, Nat.sub_self, show i * 2 + 1 - i * 2 = 1 by omega]
      exact ⟨rfl, rfl⟩
theorem sx_one (nm : Nat → ByteArray) (tm : Nat → Int) : ∀ n, ∀ u ∈ sx nm tm n, u.oneCell' = true := by
  intro n
  induction n with
  | zero => intro u h; cases h
  | succ n ih =>
    intro u h
    unfold sx at h
    rcases List.mem_append.1 h with h | h
    · exact ih u h
    · simp at h; rcases h with rfl | rfl <;> rfl
theorem ShA.rds {w : World} {A : Option Addr} {b o n : Nat} {nm : Nat → ByteArray} {tm : Nat → Int} (h : ShA w A b o n nm tm) : Rds w 2 A n (sx nm tm n) := by
  refine ⟨sx_len nm tm n, fun hn => ⟨_, h.at_ hn, fun j u hu => ?_⟩⟩
  have hj : j < n * 2 := by
    rcases Nat.lt_or_ge j (sx nm tm n).length with c | c
    · rw [sx_len] at c; exact c
    · rw [List.getElem?_eq_none c] at hu; cases hu
  obtain ⟨g1, g2⟩ := sx_get nm tm n (j / 2) (by omega)
  rw [add_plain]
  rcases Nat.mod_two_eq_zero_or_one j with c | c
  · have e : j = j / 2 * 2 := by omega
    rw [e] at hu ⊢
    rw [g1] at hu
    injection hu with hu
    subst hu
    have := h.name (j / 2) (by omega)
    exact this
  · have e : j = j / 2 * 2 + 1 := by omega
    rw [e] at hu ⊢
    rw [g2] at hu
    injection hu with hu
    subst hu
    have := h.time (j / 2) (by omega)
    rw [← Nat.add_assoc]
    exact this
theorem ShA.of_own {w : World} {base n c : Nat} {A : Option Addr} {nm : Nat → ByteArray} {tm : Nat → Int} (h : w.ownsRow base 56 2 (.slice A n c) n (sx nm tm n)) : ∃ b, ShA w A b 0 n nm tm ∧ (0 < n → base ≤ b) := by
  rcases h.2 with ⟨hv, hn⟩ | ⟨g, cap, cur, hv, hb, hg, hnc, hcm, hcs, ht⟩
  · refine ⟨0, ⟨fun h => by omega, fun i hi => by omega, fun i hi => by omega⟩, fun h => by omega⟩
  · injection hv with hv h5 h6
    have hg : Blk w g 56 cur := hg
    have hget : ∀ i, i < n → cur[i * 2]? = some (.string (nm i)) ∧ cur[i * 2 + 1]? = some (.int .i64 (tm i)) := fun i hi => by
      obtain ⟨h1, h2⟩ := sx_get nm tm n i hi
      rw [← ht] at h1 h2
      rw [List.getElem?_take, if_pos (by omega)] at h1 h2
      rw [Array.getElem?_toList] at h1 h2
      exact ⟨h1, h2⟩
    refine ⟨g, ⟨fun _ => hv, fun i hi => ?_, fun i hi => ?_⟩, fun _ => hb⟩
    · rw [hg.cell, Nat.zero_add]; exact (hget i hi).1
    · rw [hg.cell, Nat.zero_add]; exact (hget i hi).2
theorem shot_info : (Try.prog.info? 56).map (fun i => (i.zero, i.size, i.bytes)) = some (some (.agg #[.string ⟨#[]⟩, .int .i64 0]), 2, 24) := by kernel_rfl
/-- How long the answer is, and its error. -/
def Oc (n : Nat) (tm : Nat → Int) (l h d k m y v : Int) (n' : Nat) (en : Int) : Prop :=
  (4096 < n ∧ n' = 0 ∧ en = 4) ∨ (n ≤ 4096 ∧ rightB l h d k m y v = false ∧ n' = 0 ∧ en = 280) ∨ (n ≤ 4096 ∧ rightB l h d k m y v = true ∧ allIn n tm = false ∧ n' = 0 ∧ en = 281) ∨ (n ≤ 4096 ∧ rightB l h d k m y v = true ∧ allIn n tm = true ∧ n' = n ∧ en = 0)
theorem Oc.same {n : Nat} {tm : Nat → Int} {l h d k m y v : Int} {n' n'' : Nat} {en en' : Int} (h1 : Oc n tm l h d k m y v n' en) (h2 : Oc n tm l h d k m y v n'' en') : n' = n'' ∧ en = en' := by
  rcases h1 with ⟨a, rfl, rfl⟩ | ⟨a, b, rfl, rfl⟩ | ⟨a, b, c, rfl, rfl⟩ | ⟨a, b, c, rfl, rfl⟩ <;> rcases h2 with ⟨a', rfl, rfl⟩ | ⟨a', b', rfl, rfl⟩ | ⟨a', b', c', rfl, rfl⟩ | ⟨a', b', c', rfl, rfl⟩ <;> first | exact ⟨rfl, rfl⟩ | omega | exact absurd (b.symm.trans b') (by decide) | exact absurd (c.symm.trans c') (by decide)
theorem Oc.le {n : Nat} {tm : Nat → Int} {l h d k m y v : Int} {n' : Nat} {en : Int} (h1 : Oc n tm l h d k m y v n' en) : n' ≤ 4096 := by
  rcases h1 with ⟨a, rfl, rfl⟩ | ⟨a, b, rfl, rfl⟩ | ⟨a, b, c, rfl, rfl⟩ | ⟨a, b, c, rfl, rfl⟩ <;> omega
/-- An answer. -/
def OutP (w : World) (n : Nat) (nm : Nat → ByteArray) (tm : Nat → Int) (l h d k m y v : Int) (e : Ending) (w' : World) : Prop :=
  ∃ (A' : Option Addr) (n' c' : Nat) (en : Int) (ws : Nat → Int), e = .returned (.tuple #[.slice A' n' c', .int .i64 en]) ∧ Oc n tm l h d k m y v n' en ∧ KV w' A' n' nm ws ∧ (∀ g, 0 < n' → A' = some ⟨g, 0, none⟩ → w.heap.size ≤ g) ∧ (0 < n' → ∃ M, Sd (keyT tm) M (ints n) ∧ ws = planW tm M l h d k m y v) ∧ Mod no w w'
theorem plan_out {w w' : World} {n : Nat} {nm : Nat → ByteArray} {tm : Nat → Int} {l h d k m y v : Int} {e : Ending} (hp : PlanP w n nm tm l h d k m y v e w') : OutP w n nm tm l h d k m y v e w' := by
  obtain ⟨hm, ⟨h1, rfl⟩ | ⟨h1, h2, rfl⟩ | ⟨h1, h2, h3, rfl⟩ | ⟨h1, h2, h3, g, M, hg, rfl, hs, hk⟩⟩ := hp
  · exact ⟨none, 0, 0, _, fun _ => 0, rfl, .inl ⟨h1, rfl, rfl⟩, fun h => by omega, fun g h => by omega, fun h => by omega, hm⟩
  · exact ⟨none, 0, 0, _, fun _ => 0, rfl, .inr (.inl ⟨h1, h2, rfl, rfl⟩), fun h => by omega, fun g h => by omega, fun h => by omega, hm⟩
  · exact ⟨none, 0, 0, _, fun _ => 0, rfl, .inr (.inr (.inl ⟨h1, h2, h3, rfl, rfl⟩)), fun h => by omega, fun g h => by omega, fun h => by omega, hm⟩
  · exact ⟨_, n, n, _, _, rfl, .inr (.inr (.inr ⟨h1, h2, h3, rfl, rfl⟩)), fun _ => ⟨g, rfl, hk⟩, fun g' _ he => by injection he with he; injection he with he; omega, fun _ => ⟨M, hs, rfl⟩, hm⟩
theorem rplan_out {w w' : World} {n : Nat} {nm : Nat → ByteArray} {tm : Nat → Int} {l h d k m y v : Int} {e : Ending} (hp : RPlanP w n nm tm l h d k m y v e w') : OutP w n nm tm l h d k m y v e w' := by
  obtain ⟨hm, ⟨h1, rfl⟩ | ⟨h1, h2, rfl⟩ | ⟨h1, h2, h3, rfl⟩ | ⟨h1, h2, h3, go, A, c, M, hg, rfl, hs, hk⟩⟩ := hp
  · exact ⟨none, 0, 0, _, fun _ => 0, rfl, .inl ⟨h1, rfl, rfl⟩, fun h => by omega, fun g h => by omega, fun h => by omega, hm⟩
  · exact ⟨none, 0, 0, _, fun _ => 0, rfl, .inr (.inl ⟨h1, h2, rfl, rfl⟩), fun h => by omega, fun g h => by omega, fun h => by omega, hm⟩
  · exact ⟨none, 0, 0, _, fun _ => 0, rfl, .inr (.inr (.inl ⟨h1, h2, h3, rfl, rfl⟩)), fun h => by omega, fun g h => by omega, fun h => by omega, hm⟩
  · exact ⟨A, n, c, _, _, rfl, .inr (.inr (.inr ⟨h1, h2, h3, rfl, rfl⟩)), fun hn => ⟨go, (hk hn).1, (hk hn).2⟩, fun g' hn he => by
      rw [(hk hn).1] at he
      injection he with he
      injection he with he
      omega, fun _ => ⟨M, hs, rfl⟩, hm⟩
/-- Two answers are alike. -/
theorem ws_same {w : World} {n n' : Nat} {nm : Nat → ByteArray} {tm : Nat → Int} {l h d k m y v : Int} {A : Option Addr} {ws ws' : Nat → Int} (h1 : 0 < n' → ∃ M, Sd (keyT tm) M (ints n) ∧ ws = planW tm M l h d k m y v) (h2 : 0 < n' → ∃ M, Sd (keyT tm) M (ints n) ∧ ws' = planW tm M l h d k m y v) (hk : KV w A n' nm ws') : KV w A n' nm ws := fun hn => by
  obtain ⟨M, s1, rfl⟩ := h1 hn
  obtain ⟨M', s2, rfl⟩ := h2 hn
  rw [sd_unique s1 s2]
  exact hk hn
end Go.Proofs.Ytoncjoelkenjnaa.PL
