/- slices.SortStableFunc at []int: symMerge where both rows have two elements or more; then of any rows. -/
import Derived.Test.YtoncjoelkenjnaaSsD
import Derived.Test.YtoncjoelkenjnaaSsE
namespace Go.Proofs.Ytoncjoelkenjnaa.SS
open Go.RowKit Mem
set_option linter.unusedVariables false
set_option linter.unusedSimpArgs false

/-- What a call of symMerge does to rows of len elements together, or fewer. -/
def Sym (K : Int → Int) (cf : Int → Int → Int) (D : Int → Prop) (g : Nat) (cb : Array Value) (b c : Nat) (R : List Value) (len : Nat) : Prop :=
  ∀ (w : World) (P A B Q : List Int), A.length + B.length ≤ len → CmpOK K cf D g cb b w → 0 < A.length → 0 < B.length → IB w b (P ++ A ++ B ++ Q) R → (P ++ A ++ B ++ Q).length ≤ 1048600 → Srt K A → Srt K B → (∀ x ∈ A, ∀ y ∈ B, x < y) → (∀ x ∈ A, D x) → (∀ y ∈ B, D y) →
    Calls Try.prog 57 #[.slice (some ⟨b, 0, none⟩) (P ++ A ++ B ++ Q).length c, .int .i64 (P.length : Int), .int .i64 ((P.length + A.length : Nat) : Int), .int .i64 ((P.length + A.length + B.length : Nat) : Int), .func (.func g) #[] cb] w fun e w' => e = .returned (.tuple #[]) ∧ ∃ M, M.Perm (A ++ B) ∧ Srt K M ∧ IB w' b (P ++ M ++ Q) R ∧ Mod (one b) w w'
theorem nfacts {a m z mid N : Nat} (ham : a + 2 ≤ m) (hmz : m + 2 ≤ z) (hzN : z ≤ N) (hl : N ≤ 1048600) (hmid : mid = (a + z) / 2) : a < mid ∧ mid < z ∧ ((m : Int) - (a : Int) == 1) = false ∧ ((z : Int) - (m : Int) == 1) = false ∧ ((a : Int) + (z : Int)) / 2 = (mid : Int) ∧ mid + m ≤ 2097200 ∧ 1 ≤ mid + m := by
  refine ⟨by omega, by omega, by rw [beq_eq_false_iff_ne]; omega, by rw [beq_eq_false_iff_ne]; omega, by omega, by omega, by omega⟩
theorem wfacts {m z mid : Nat} (h : mid + m ≤ 2097200) (h1 : 1 ≤ mid + m) (hz : z ≤ 1048600) : wrap64 ((mid : Int) + (m : Int)) = ((mid + m : Nat) : Int) ∧ wrap64 ((mid : Int) + (m : Int) - 1) = ((mid + m - 1 : Nat) : Int) := by
  constructor
  · rw [IntWalk.wrap64_in _ (by omega)]; omega
  · rw [IntWalk.wrap64_in _ (by omega)]; omega
theorem sr1 {a m z mid : Nat} (ham : a + 2 ≤ m) (hmz : m + 2 ≤ z) (hmid : mid = (a + z) / 2) (h : mid < m) : SR a m z mid (mid + m - z) mid ∧ ((mid : Int) + (m : Int) - (z : Int)) = ((mid + m - z : Nat) : Int) := by
  refine ⟨⟨ham, hmz, hmid, .inl ⟨h, by omega, rfl⟩⟩, by omega⟩
theorem sr2 {a m z mid : Nat} (ham : a + 2 ≤ m) (hmz : m + 2 ≤ z) (hmid : mid = (a + z) / 2) (h : ¬ mid < m) : SR a m z mid a m := ⟨ham, hmz, hmid, .inr ⟨by omega, rfl, rfl⟩⟩
theorem cfacts {i j s0 r0 a m z mid p N : Nat} (hij : i < j) (h1 : s0 ≤ i) (h2 : j ≤ r0) (h : SR a m z mid s0 r0) (hp : p = mid + m - 1) (hz : z ≤ N) (hN : N ≤ 1048600) :
    (i + j) / 2 < N ∧ p - (i + j) / 2 < N ∧ i ≤ (i + j) / 2 ∧ (i + j) / 2 < j ∧ (wrap64 ((mid : Int) + (m : Int) - 1 - ((i : Int) + (j : Int)) / 2) = ((p - (i + j) / 2 : Nat) : Int) ∧ IntKind.i64.wrap ((mid : Int) + (m : Int) - 1 - ((i : Int) + (j : Int)) / 2) = ((p - (i + j) / 2 : Nat) : Int)) ∧ ¬ ((p - (i + j) / 2 : Nat) : Int) < 0 ∧ ((p - (i + j) / 2 : Nat) : Int) < (N : Int) ∧ a ≤ (i + j) / 2 ∧ (i + j) / 2 < m ∧ m ≤ p - (i + j) / 2 ∧ p - (i + j) / 2 < z := by
  obtain ⟨f1, f2, f3, f4, f5, f6, f7⟩ := h.facts
  have hw0 : (mid : Int) + (m : Int) - 1 - ((i : Int) + (j : Int)) / 2 = ((p - (i + j) / 2 : Nat) : Int) := by omega
  have hw1 : p - (i + j) / 2 ≤ 1048600 := by omega
  have hw : wrap64 ((mid : Int) + (m : Int) - 1 - ((i : Int) + (j : Int)) / 2) = ((p - (i + j) / 2 : Nat) : Int) ∧ IntKind.i64.wrap ((mid : Int) + (m : Int) - 1 - ((i : Int) + (j : Int)) / 2) = ((p - (i + j) / 2 : Nat) : Int) := by
    rw [hw0]
    exact ⟨IntWalk.wrap64_in _ (by omega), by rw [IntKind.wrap_i64]; omega⟩
  refine ⟨by omega, by omega, by omega, by omega, hw, by omega, by omega, by omega, by omega, by omega, by omega⟩
/-- What is known behind the search: the rotation, the two calls of itself, the end. -/
structure Tl (K : Int → Int) (w : World) (b c N g : Nat) (cb : Array Value) (P A1 A2 B1 B2 Q A B : List Int) (R : List Value) (a i m e mid z : Nat) : Prop where
  c1 : 0 < A2.length → 0 < B1.length → ∀ W, IB W b (P ++ (A1 ++ A2) ++ (B1 ++ B2) ++ Q) R → Mod (one b) w W → Calls Try.prog 58 #[.slice (some ⟨b, 0, none⟩) N c, .int .i64 (i : Int), .int .i64 (m : Int), .int .i64 (e : Int), .func (.func g) #[] cb] W fun x w' => x = .returned (.tuple #[]) ∧ IB w' b (P ++ (A1 ++ B1) ++ (A2 ++ B2) ++ Q) R ∧ Mod (one b) w w'
  d1 : A2.length = 0 ∨ B1.length = 0 → P ++ (A1 ++ A2) ++ (B1 ++ B2) ++ Q = P ++ (A1 ++ B1) ++ (A2 ++ B2) ++ Q
  c2 : 0 < A1.length → 0 < B1.length → ∀ W, IB W b (P ++ (A1 ++ B1) ++ (A2 ++ B2) ++ Q) R → Mod (one b) w W → Calls Try.prog 57 #[.slice (some ⟨b, 0, none⟩) N c, .int .i64 (a : Int), .int .i64 (i : Int), .int .i64 (mid : Int), .func (.func g) #[] cb] W fun x w' => x = .returned (.tuple #[]) ∧ ∃ M, M.Perm (A1 ++ B1) ∧ Srt K M ∧ IB w' b (P ++ M ++ (A2 ++ B2) ++ Q) R ∧ Mod (one b) w w'
  d2 : A1.length = 0 ∨ B1.length = 0 → Srt K (A1 ++ B1)
  c3 : 0 < A2.length → 0 < B2.length → ∀ W M, M.Perm (A1 ++ B1) → IB W b (P ++ M ++ (A2 ++ B2) ++ Q) R → Mod (one b) w W → Calls Try.prog 57 #[.slice (some ⟨b, 0, none⟩) N c, .int .i64 (mid : Int), .int .i64 (e : Int), .int .i64 (z : Int), .func (.func g) #[] cb] W fun x w' => x = .returned (.tuple #[]) ∧ ∃ M', M'.Perm (A2 ++ B2) ∧ Srt K M' ∧ IB w' b (P ++ M ++ M' ++ Q) R ∧ Mod (one b) w w'
  d3 : A2.length = 0 ∨ B2.length = 0 → Srt K (A2 ++ B2)
  fin : ∀ W M M', M.Perm (A1 ++ B1) → Srt K M → M'.Perm (A2 ++ B2) → Srt K M' → IB W b (P ++ M ++ M' ++ Q) R → Mod (one b) w W → (∃ M, M.Perm (A ++ B) ∧ Srt K M ∧ IB W b (P ++ M ++ Q) R ∧ Mod (one b) w W)
theorem nil_of {α : Type} {L : List α} (h : L.length = 0) : L = [] := List.eq_nil_of_length_eq_zero h
set_option maxHeartbeats 2000000 in
theorem tl_any {K : Int → Int} {cf : Int → Int → Int} {D : Int → Prop} {g : Nat} {cb : Array Value} {b c len : Nat} {R : List Value} (ih : Sym K cf D g cb b c R len) {w : World} {P A B Q A1 A2 B1 B2 : List Int} {a i m mid z N : Nat} (hN : N = (P ++ A ++ B ++ Q).length) (hlen : A.length + B.length ≤ len + 1) (C : CmpOK K cf D g cb b w) (hA2 : 2 ≤ A.length) (hB2 : 2 ≤ B.length) (hl : N ≤ 1048600) (hA : Srt K A) (hB : Srt K B) (hAB : ∀ x ∈ A, ∀ y ∈ B, x < y) (hDA : ∀ x ∈ A, D x) (hDB : ∀ y ∈ B, D y) (ha : a = P.length) (hmid : mid = (a + z) / 2) (hm : m = a + A.length) (hz : z = m + B.length) (hc : Cut K A B a m z mid i A1 A2 B1 B2) :
    Tl K w b c N g cb P A1 A2 B1 B2 Q A B R a i m (mid + m - i) mid z := by
  obtain ⟨rfl, rfl, l1, l2, l3, l4, l5, l6, hab, hba⟩ := hc
  have sA := List.pairwise_append.1 hA
  have sB := List.pairwise_append.1 hB
  have hNN : N = P.length + A1.length + A2.length + B1.length + B2.length + Q.length := by rw [hN]; simp only [List.length_append]; omega
  rw [List.length_append] at hlen hA2 hm
  rw [List.length_append] at hlen hB2 hz
  refine ⟨fun h1 h2 W hW hM => ?_, fun h => ?_, fun h1 h2 W hW hM => ?_, fun h => ?_, fun h1 h2 W M hp hW hM => ?_, fun h => ?_, fun W M M' p1 s1 p2 s2 hW hM => ?_⟩
  · have e1 : P ++ (A1 ++ A2) ++ (B1 ++ B2) ++ Q = (P ++ A1) ++ A2 ++ B1 ++ (B2 ++ Q) := by simp
    rw [e1] at hW
    have h := rotate_any (c := c) (fv := .func (.func g) #[] cb) h1 h2 hW (by simp only [List.length_append]; omega)
    rw [show ((P ++ A1) ++ A2 ++ B1 ++ (B2 ++ Q)).length = N by simp only [List.length_append]; omega, show (P ++ A1).length = i by simp only [List.length_append]; omega, show i + A2.length = m by omega, show m + B1.length = mid + m - i by omega] at h
    refine h.mono ?_
    rintro x w' ⟨rfl, hb, m2⟩
    exact ⟨rfl, by have e2 : (P ++ A1) ++ B1 ++ A2 ++ (B2 ++ Q) = P ++ (A1 ++ B1) ++ (A2 ++ B2) ++ Q := by simp
                   rw [← e2]; exact hb, hM.and_then m2⟩
  · rcases h with h | h
    · rw [nil_of h]; simp
    · rw [nil_of h]; simp
  · have e1 : P ++ (A1 ++ B1) ++ (A2 ++ B2) ++ Q = P ++ A1 ++ B1 ++ (A2 ++ B2 ++ Q) := by simp
    rw [e1] at hW
    have h := ih W P A1 B1 (A2 ++ B2 ++ Q) (by omega) (C.mod hM) h1 h2 hW (by simp only [List.length_append]; omega) sA.1 sB.1 (fun x hx y hy => hAB x (List.mem_append_left _ hx) y (List.mem_append_left _ hy)) (fun x hx => hDA x (List.mem_append_left _ hx)) (fun y hy => hDB y (List.mem_append_left _ hy))
    rw [show (P ++ A1 ++ B1 ++ (A2 ++ B2 ++ Q)).length = N by simp only [List.length_append]; omega, ← ha, ← l1, ← l5] at h
    refine h.mono ?_
    rintro x w' ⟨rfl, M, p, s, hb, m2⟩
    exact ⟨rfl, M, p, s, by have e2 : P ++ M ++ (A2 ++ B2 ++ Q) = P ++ M ++ (A2 ++ B2) ++ Q := by simp
                            rw [← e2]; exact hb, hM.and_then m2⟩
  · rcases h with h | h
    · rw [nil_of h]; exact sB.1
    · rw [nil_of h, List.append_nil]; exact sA.1
  · have hpl := hp.length_eq
    rw [List.length_append] at hpl
    have e1 : P ++ M ++ (A2 ++ B2) ++ Q = (P ++ M) ++ A2 ++ B2 ++ Q := by simp
    rw [e1] at hW
    have h := ih W (P ++ M) A2 B2 Q (by omega) (C.mod hM) h1 h2 hW (by simp only [List.length_append]; omega) sA.2.1 sB.2.1 (fun x hx y hy => hAB x (List.mem_append_right _ hx) y (List.mem_append_right _ hy)) (fun x hx => hDA x (List.mem_append_right _ hx)) (fun y hy => hDB y (List.mem_append_right _ hy))
    rw [show ((P ++ M) ++ A2 ++ B2 ++ Q).length = N by simp only [List.length_append]; omega, show (P ++ M).length = mid by rw [List.length_append]; omega, ← l6, ← l4] at h
    refine h.mono ?_
    rintro x w' ⟨rfl, M', p, s, hb, m2⟩
    exact ⟨rfl, M', p, s, hb, hM.and_then m2⟩
  · rcases h with h | h
    · rw [nil_of h]; exact sB.2.1
    · rw [nil_of h, List.append_nil]; exact sA.2.1
  · obtain ⟨h1, h2⟩ := merged hA hB p1 p2 s1 s2 hab hba
    exact ⟨M ++ M', h2, h1, by rw [← List.append_assoc]; exact hW, hM⟩
theorem pfacts {K : Int → Int} {A B A1 A2 B1 B2 : List Int} {a i m mid z e : Nat} (he : e = mid + m - i) (hz : z ≤ 1048600) (hmz : mid < z) (hA : 2 ≤ A.length) (hB : 2 ≤ B.length) (hd0 : a + 2 ≤ mid) (hd1 : mid + 2 ≤ z) (h : Cut K A B a m z mid i A1 A2 B1 B2) :
    ((i : Int) < (m : Int) ↔ 0 < A2.length) ∧ ((m : Int) < (e : Int) ↔ 0 < B1.length) ∧ ((a : Int) < (i : Int) ↔ 0 < A1.length) ∧ ((i : Int) < (mid : Int) ↔ 0 < B1.length) ∧ ((mid : Int) < (e : Int) ↔ 0 < A2.length) ∧ ((e : Int) < (z : Int) ↔ 0 < B2.length) ∧
    ((0 < A1.length ∧ 0 < B1.length ∧ 0 < A2.length ∧ 0 < B2.length) ∨ (¬ 0 < A1.length ∧ 0 < B1.length ∧ 0 < A2.length ∧ 0 < B2.length) ∨ (0 < A1.length ∧ ¬ 0 < B1.length ∧ 0 < A2.length ∧ 0 < B2.length) ∨ (0 < A1.length ∧ 0 < B1.length ∧ ¬ 0 < A2.length ∧ 0 < B2.length) ∨ (0 < A1.length ∧ 0 < B1.length ∧ 0 < A2.length ∧ ¬ 0 < B2.length) ∨ (¬ 0 < A1.length ∧ 0 < B1.length ∧ 0 < A2.length ∧ ¬ 0 < B2.length) ∨ (0 < A1.length ∧ ¬ 0 < B1.length ∧ ¬ 0 < A2.length ∧ 0 < B2.length)) ∧
    (wrap64 ((mid : Int) + (m : Int) - (i : Int)) = (e : Int) ∧ IntKind.i64.wrap ((mid : Int) + (m : Int) - (i : Int)) = (e : Int)) := by
  obtain ⟨rfl, rfl, l1, l2, l3, l4, l5, l6, hab, hba⟩ := h
  rw [List.length_append] at hA hB
  have e0 : (mid : Int) + (m : Int) - (i : Int) = (e : Int) := by omega
  refine ⟨by omega, by omega, by omega, by omega, by omega, by omega, by omega, ?_⟩
  rw [e0]
  exact ⟨IntWalk.wrap64_in _ (by omega), by rw [IntKind.wrap_i64]; omega⟩
end Go.Proofs.Ytoncjoelkenjnaa.SS
