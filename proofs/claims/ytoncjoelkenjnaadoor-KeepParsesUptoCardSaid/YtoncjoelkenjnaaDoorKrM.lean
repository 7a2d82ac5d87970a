/- A rule's text, in plain Lean: Print's and the document's; how either way of reading finds the rule of a text. No program. -/
import Derived.Lib.ParseIntBCases
import Derived.Lib.Join
import Derived.Lib.SplitLaws
import Derived.Lib.ItoaMem
import GoSem.Core.Lib
namespace Go.Proofs.YtoncjoelkenjnaaDoor.KR
open Go.Lib
set_option linter.unusedVariables false
set_option linter.unusedSimpArgs false

abbrev Bytes := List UInt8
def wLast : Bytes := [108, 97, 115, 116]
def wHours : Bytes := [104, 111, 117, 114, 115]
def wDays : Bytes := [100, 97, 121, 115]
def wWeeks : Bytes := [119, 101, 101, 107, 115]
def wMonths : Bytes := [109, 111, 110, 116, 104, 115]
def wYears : Bytes := [121, 101, 97, 114, 115]
def wWithin : Bytes := [119, 105, 116, 104, 105, 110]
def noneB : Bytes := [110, 111, 110, 101]
/-- A rule: its seven numbers. -/
structure Rule where
  l : Int
  h : Int
  d : Int
  w : Int
  m : Int
  y : Int
  x : Int
def Rule.zero : Rule := ⟨0, 0, 0, 0, 0, 0, 0⟩
abbrev I16 (n : Int) : Prop := -32768 ≤ n ∧ n ≤ 32767
abbrev I64 (n : Int) : Prop := -9223372036854775808 ≤ n ∧ n ≤ 9223372036854775807
structure Rule.In (r : Rule) : Prop where
  l : I16 r.l
  h : I16 r.h
  d : I16 r.d
  w : I16 r.w
  m : I16 r.m
  y : I16 r.y
  x : I64 r.x
def Rule.right (r : Rule) : Prop := 0 ≤ r.l ∧ 0 ≤ r.h ∧ 0 ≤ r.d ∧ 0 ≤ r.w ∧ 0 ≤ r.m ∧ 0 ≤ r.y ∧ 0 ≤ r.x
instance (r : Rule) : Decidable r.right := by unfold Rule.right; infer_instance
theorem zero_in : Rule.zero.In := ⟨by decide, by decide, by decide, by decide, by decide, by decide, by decide⟩
def Rule.all (r : Rule) : List (Bytes × Int) := [(wLast, r.l), (wHours, r.h), (wDays, r.d), (wWeeks, r.w), (wMonths, r.m), (wYears, r.y), (wWithin, r.x)]
def nz (p : Bytes × Int) : Bool := decide (p.2 ≠ 0)
def flat (ps : List (Bytes × Int)) : List Bytes := ps.flatMap fun p => [p.1, itoa p.2]
def Rule.pairs (r : Rule) : List (Bytes × Int) := r.all.filter nz
def Rule.pieces (r : Rule) : List Bytes := flat r.pairs
/-- A rule's text. -/
def Rule.text (r : Rule) : Bytes := if r.pieces = [] then noneB else join r.pieces [32]

/-! ### Digits -/
theorem dec_digit : ∀ (u : Nat), ∀ b ∈ decDigits u, 48 ≤ b.toNat ∧ b.toNat ≤ 57 := by
  intro u
  induction u using Nat.strongRecOn with
  | _ u ih =>
    intro b hb
    by_cases h : u < 10
    · rw [decDigits_one h] at hb
      obtain rfl := List.mem_singleton.1 hb
      have : (UInt8.ofNat (48 + u)).toNat = 48 + u := by simp; omega
      rw [this]; omega
    · rw [decDigits, dif_neg h] at hb
      rcases List.mem_append.1 hb with hb | hb
      · exact ih (u / 10) (by omega) b hb
      · obtain rfl := List.mem_singleton.1 hb
        have : (UInt8.ofNat (48 + u % 10)).toNat = 48 + u % 10 := by simp; omega
        rw [this]; omega
theorem digit_val {d : Nat} (h : d < 10) : (UInt8.ofNat (48 + d)).toNat = 48 + d := by simp; omega
theorem dec_ne (u : Nat) : decDigits u ≠ [] := by
  by_cases h : u < 10
  · rw [decDigits_one h]; simp
  · rw [decDigits, dif_neg h]; simp
theorem parseM_dec (M : Nat) (hM : M ≤ 18446744073709551615) : ∀ (u : Nat) (rest : Bytes), u ≤ M → parseUintM M 0 (decDigits u ++ rest) = parseUintM M u rest := by
  intro u
  induction u using Nat.strongRecOn with
  | _ u ih =>
    intro rest hu
    by_cases h : u < 10
    · rw [decDigits_one h, List.singleton_append, parseUintM, digit_val h, if_pos (by omega), if_neg (by omega), if_neg (by omega)]
      congr 1
      omega
    · rw [decDigits, dif_neg h, List.append_assoc, ih (u / 10) (by omega) _ (by omega), List.singleton_append, parseUintM, digit_val (by omega), if_pos (by omega), if_neg (by omega), if_neg (by omega)]
      congr 1
      omega
theorem parse_itoa {n : Int} (h0 : 0 ≤ n) (h1 : n ≤ 9223372036854775807) : parseIntB 64 (itoa n) = .ok n := by
  obtain ⟨u, rfl⟩ : ∃ u : Nat, n = (u : Int) := ⟨n.toNat, by omega⟩
  rw [itoa_nonneg]
  have hp : parseUintB 64 (decDigits u) = .ok u := by
    unfold parseUintB
    rw [if_neg (dec_ne u)]
    have := parseM_dec (2 ^ 64 - 1) (by omega) u [] (by omega)
    rw [List.append_nil] at this
    rw [this]; rfl
  have hd := dec_digit u
  revert hp hd
  cases hc : decDigits u with
  | nil => exact absurd hc (dec_ne u)
  | cons c r =>
    intro hp hd
    have h := hd c (by simp)
    simp only [parseIntB]
    rw [if_neg (by omega), hp]
    simp only
    rw [if_neg (by omega), if_neg (by omega), if_neg (by omega)]

/-- What the document's number takes off. -/
def numGo (acc : Int) : Bytes → Int
  | [] => acc
  | b :: t => if b.toNat < 48 ∨ 57 < b.toNat then acc else if acc > (9223372036854775807 - ((b.toNat : Int) - 48)) / 10 then 0 else numGo (10 * acc + ((b.toNat : Int) - 48)) t
theorem num_dec : ∀ (u : Nat) (rest : Bytes), u ≤ 9223372036854775807 → numGo 0 (decDigits u ++ rest) = numGo u rest := by
  intro u
  induction u using Nat.strongRecOn with
  | _ u ih =>
    intro rest hu
    by_cases h : u < 10
    · rw [decDigits_one h, List.singleton_append, numGo, digit_val h, if_neg (by omega), if_neg (by omega)]
      congr 1
      omega
    · rw [decDigits, dif_neg h, List.append_assoc, ih (u / 10) (by omega) _ (by omega), List.singleton_append, numGo, digit_val (by omega), if_neg (by omega), if_neg (by omega)]
      congr 1
      omega
theorem num_itoa {n : Int} (h0 : 0 ≤ n) (h1 : n ≤ 9223372036854775807) (rest : Bytes) : numGo 0 (itoa n ++ rest) = numGo n rest := by
  obtain ⟨u, rfl⟩ : ∃ u : Nat, n = (u : Int) := ⟨n.toNat, by omega⟩
  rw [itoa_nonneg, num_dec u rest (by omega)]
theorem num_in : ∀ (l : Bytes) (acc : Int), 0 ≤ acc → acc ≤ 9223372036854775807 → 0 ≤ numGo acc l ∧ numGo acc l ≤ 9223372036854775807
  | [], acc, h0, h1 => ⟨h0, h1⟩
  | b :: t, acc, h0, h1 => by
    unfold numGo
    split
    · exact ⟨h0, h1⟩
    · split
      · exact ⟨by decide, by decide⟩
      · exact num_in t _ (by omega) (by omega)
theorem itoa_no32 {n : Int} (h0 : 0 ≤ n) : (32 : UInt8) ∉ itoa n := by
  obtain ⟨u, rfl⟩ : ∃ u : Nat, n = (u : Int) := ⟨n.toNat, by omega⟩
  rw [itoa_nonneg]
  intro hm
  have := dec_digit u 32 hm
  simp at this

/-! ### Cutting at the blanks -/
def onto (cur : Bytes) : List Bytes → List Bytes
  | [] => [cur]
  | x :: xs => (cur ++ x) :: xs
def cuts : Bytes → List Bytes
  | [] => [[]]
  | b :: t => if b = 32 then [] :: cuts t else onto [b] (cuts t)
theorem cuts_ne (l : Bytes) : cuts l ≠ [] := by
  cases l with
  | nil => simp [cuts]
  | cons b t =>
    unfold cuts
    split
    · simp
    · cases cuts t <;> simp [onto]
theorem onto_onto (a b : Bytes) (x : List Bytes) : onto a (onto b x) = onto (a ++ b) x := by
  cases x <;> simp [onto]
theorem splitK_cons (c b : UInt8) (hb : b ≠ c) : ∀ (k : Nat) (t : Bytes), splitK [c] 0 k (b :: t) = onto [b] (splitK [c] 0 k t)
  | 0, t => rfl
  | k + 1, t => by
    have hp : [c].isPrefixOf (b :: t) = false := by simp [List.isPrefixOf]; intro h; exact hb h.symm
    unfold splitK
    rw [index, hp]
    have hge := index_ge t [c]
    by_cases h1 : (index t [c] == -1) = true
    · simp only [h1, if_true, Bool.false_eq_true, if_false]
      simp [onto]
    · have h1' : (index t [c] == -1) = false := by simpa using h1
      have h2 : (index t [c] + 1 == -1) = false := by simp at h1 ⊢; omega
      simp only [h1', h2, Bool.false_eq_true, if_false]
      have e1 : (index t [c] + 1).toNat = (index t [c]).toNat + 1 := by simp at h1; omega
      rw [e1]
      simp [onto]
theorem splitK_cuts : ∀ l : Bytes, splitK [32] 0 (l.count 32) l = cuts l
  | [] => rfl
  | b :: t => by
    by_cases hb : b = 32
    · subst hb
      rw [List.count_cons_self, splitK, cuts, if_pos rfl]
      have : index (32 :: t) [32] = 0 := by simp [index, List.isPrefixOf]
      rw [this]
      simp
      exact splitK_cuts t
    · rw [List.count_cons_of_ne hb, splitK_cons 32 b hb, splitK_cuts t, cuts, if_neg hb]
theorem cuts_piece : ∀ {x : Bytes}, (32 : UInt8) ∉ x → cuts x = [x]
  | [], _ => rfl
  | b :: t, h => by
    have hb : b ≠ 32 := fun e => h (by simp [e])
    rw [cuts, if_neg hb, cuts_piece (fun hm => h (by simp [hm]))]
    simp [onto]
theorem cuts_first : ∀ {x : Bytes} (t : Bytes), (32 : UInt8) ∉ x → cuts (x ++ 32 :: t) = x :: cuts t
  | [], t, _ => by simp [cuts]
  | b :: x, t, h => by
    have hb : b ≠ 32 := fun e => h (by simp [e])
    rw [List.cons_append, cuts, if_neg hb, cuts_first t (fun hm => h (by simp [hm]))]
    simp [onto]
theorem join_two (x y : Bytes) (r : List Bytes) : join (x :: y :: r) [32] = x ++ 32 :: join (y :: r) [32] := by
  rw [join_cons, join_cons]
  simp [joinTail]
theorem cuts_join : ∀ {ps : List Bytes}, ps ≠ [] → (∀ x ∈ ps, (32 : UInt8) ∉ x) → cuts (join ps [32]) = ps
  | [], h, _ => absurd rfl h
  | [x], _, h => by rw [join_one]; exact cuts_piece (h x (by simp))
  | x :: y :: r, _, h => by
    rw [join_two, cuts_first _ (h x (by simp)), cuts_join (by simp) (fun z hz => h z (by simp [hz]))]

/-! ### The program's way of reading -/
def w16 (n : Int) : Int := IntKind.i16.wrap n
def setW (f : Bytes) (n : Int) (r : Rule) : Rule :=
  if f = wLast then { r with l := w16 n } else if f = wHours then { r with h := w16 n } else if f = wDays then { r with d := w16 n } else
  if f = wWeeks then { r with w := w16 n } else if f = wMonths then { r with m := w16 n } else if f = wYears then { r with y := w16 n } else { r with x := n }
def foldP : List Bytes → Rule → Option Rule
  | f :: g :: rest, r => match parseIntB 64 g with
    | .ok n => foldP rest (setW f n r)
    | _ => none
  | _, r => some r
def NumOK (p : Bytes × Int) : Prop := 0 ≤ p.2 ∧ p.2 ≤ 9223372036854775807
theorem foldP_flat : ∀ (ps : List (Bytes × Int)) (r : Rule), (∀ p ∈ ps, NumOK p) → foldP (flat ps) r = some (ps.foldl (fun r p => setW p.1 p.2 r) r)
  | [], r, _ => rfl
  | p :: ps, r, h => by
    have hp := h p (by simp)
    show foldP (p.1 :: itoa p.2 :: flat ps) r = _
    rw [foldP, parse_itoa hp.1 hp.2]
    exact foldP_flat ps _ fun q hq => h q (by simp [hq])
theorem w16_id {n : Int} (h0 : 0 ≤ n) (h1 : I16 n) : w16 n = n := by
  obtain ⟨_, h2⟩ := h1
  unfold w16
  simp [IntKind.wrap, IntKind.bits, IntKind.signed]
  omega
theorem fold_all {set : Bytes → Int → Rule → Rule} {r : Rule}
    (h1 : ∀ q : Rule, set wLast r.l q = { q with l := r.l }) (h2 : ∀ q : Rule, set wHours r.h q = { q with h := r.h }) (h3 : ∀ q : Rule, set wDays r.d q = { q with d := r.d })
    (h4 : ∀ q : Rule, set wWeeks r.w q = { q with w := r.w }) (h5 : ∀ q : Rule, set wMonths r.m q = { q with m := r.m }) (h6 : ∀ q : Rule, set wYears r.y q = { q with y := r.y })
    (h7 : ∀ q : Rule, set wWithin r.x q = { q with x := r.x }) : r.pairs.foldl (fun r p => set p.1 p.2 r) Rule.zero = r := by
  have s1 : (if nz (wLast, r.l) = true then set (wLast, r.l).1 (wLast, r.l).2 ⟨0, 0, 0, 0, 0, 0, 0⟩ else ⟨0, 0, 0, 0, 0, 0, 0⟩) = ((⟨r.l, 0, 0, 0, 0, 0, 0⟩) : Rule) := by
    simp only [h1]
    by_cases hc : r.l = 0 <;> simp [nz, hc]
  have s2 : (if nz (wHours, r.h) = true then set (wHours, r.h).1 (wHours, r.h).2 ⟨r.l, 0, 0, 0, 0, 0, 0⟩ else ⟨r.l, 0, 0, 0, 0, 0, 0⟩) = ((⟨r.l, r.h, 0, 0, 0, 0, 0⟩) : Rule) := by
    simp only [h2]
    by_cases hc : r.h = 0 <;> simp [nz, hc]
  have s3 : (if nz (wDays, r.d) = true then set (wDays, r.d).1 (wDays, r.d).2 ⟨r.l, r.h, 0, 0, 0, 0, 0⟩ else ⟨r.l, r.h, 0, 0, 0, 0, 0⟩) = ((⟨r.l, r.h, r.d, 0, 0, 0, 0⟩) : Rule) := by
    simp only [h3]
    by_cases hc : r.d = 0 <;> simp [nz, hc]
  have s4 : (if nz (wWeeks, r.w) = true then set (wWeeks, r.w).1 (wWeeks, r.w).2 ⟨r.l, r.h, r.d, 0, 0, 0, 0⟩ else ⟨r.l, r.h, r.d, 0, 0, 0, 0⟩) = ((⟨r.l, r.h, r.d, r.w, 0, 0, 0⟩) : Rule) := by
    simp only [h4]
    by_cases hc : r.w = 0 <;> simp [nz, hc]
  have s5 : (if nz (wMonths, r.m) = true then set (wMonths, r.m).1 (wMonths, r.m).2 ⟨r.l, r.h, r.d, r.w, 0, 0, 0⟩ else ⟨r.l, r.h, r.d, r.w, 0, 0, 0⟩) = ((⟨r.l, r.h, r.d, r.w, r.m, 0, 0⟩) : Rule) := by
    simp only [h5]
    by_cases hc : r.m = 0 <;> simp [nz, hc]
  have s6 : (if nz (wYears, r.y) = true then set (wYears, r.y).1 (wYears, r.y).2 ⟨r.l, r.h, r.d, r.w, r.m, 0, 0⟩ else ⟨r.l, r.h, r.d, r.w, r.m, 0, 0⟩) = ((⟨r.l, r.h, r.d, r.w, r.m, r.y, 0⟩) : Rule) := by
    simp only [h6]
    by_cases hc : r.y = 0 <;> simp [nz, hc]
  have s7 : (if nz (wWithin, r.x) = true then set (wWithin, r.x).1 (wWithin, r.x).2 ⟨r.l, r.h, r.d, r.w, r.m, r.y, 0⟩ else ⟨r.l, r.h, r.d, r.w, r.m, r.y, 0⟩) = ((⟨r.l, r.h, r.d, r.w, r.m, r.y, r.x⟩) : Rule) := by
    simp only [h7]
    by_cases hc : r.x = 0 <;> simp [nz, hc]
  unfold Rule.pairs
  rw [List.foldl_filter]
  simp only [Rule.all, List.foldl_cons, List.foldl_nil, Rule.zero]
  rw [s1, s2, s3, s4, s5, s6, s7]
theorem pairs_num {r : Rule} (hi : r.In) (hr : r.right) : ∀ p ∈ r.pairs, NumOK p := by
  obtain ⟨g1, g2, g3, g4, g5, g6, g7⟩ := hr
  intro p hp
  have hp := (List.mem_filter.1 hp).1
  simp only [Rule.all, List.mem_cons, List.not_mem_nil, or_false] at hp
  have i1 := hi.l.2; have i2 := hi.h.2; have i3 := hi.d.2; have i4 := hi.w.2; have i5 := hi.m.2; have i6 := hi.y.2; have i7 := hi.x.2
  rcases hp with rfl | rfl | rfl | rfl | rfl | rfl | rfl <;> exact ⟨by assumption, by simp only; omega⟩
theorem pairs_word {r : Rule} : ∀ p ∈ r.pairs, p.1 = wLast ∨ p.1 = wHours ∨ p.1 = wDays ∨ p.1 = wWeeks ∨ p.1 = wMonths ∨ p.1 = wYears ∨ p.1 = wWithin := by
  intro p hp
  have hp := (List.mem_filter.1 hp).1
  simp only [Rule.all, List.mem_cons, List.not_mem_nil, or_false] at hp
  rcases hp with rfl | rfl | rfl | rfl | rfl | rfl | rfl <;> simp
theorem word_no32 {f : Bytes} (h : f = wLast ∨ f = wHours ∨ f = wDays ∨ f = wWeeks ∨ f = wMonths ∨ f = wYears ∨ f = wWithin) : (32 : UInt8) ∉ f := by
  rcases h with rfl | rfl | rfl | rfl | rfl | rfl | rfl <;> decide
theorem flat_no32 {ps : List (Bytes × Int)} (hn : ∀ p ∈ ps, NumOK p) (hw : ∀ p ∈ ps, (32 : UInt8) ∉ p.1) : ∀ x ∈ flat ps, (32 : UInt8) ∉ x := by
  intro x hx
  obtain ⟨p, hp, hx⟩ := List.mem_flatMap.1 hx
  simp only [List.mem_cons, List.not_mem_nil, or_false] at hx
  rcases hx with rfl | rfl
  · exact hw p hp
  · exact itoa_no32 (hn p hp).1
def parseP (t : Bytes) : Option Rule := foldP (cuts t) Rule.zero
theorem parseP_text {r : Rule} (hi : r.In) (hr : r.right) : parseP r.text = some r := by
  obtain ⟨g1, g2, g3, g4, g5, g6, g7⟩ := hr
  have hfold : foldP r.pieces Rule.zero = some r := by
    unfold Rule.pieces
    rw [foldP_flat _ _ (pairs_num hi ⟨g1, g2, g3, g4, g5, g6, g7⟩)]
    congr 1
    refine fold_all (set := setW) ?_ ?_ ?_ ?_ ?_ ?_ ?_
    · intro q; simp [setW, w16_id g1 hi.l]
    · intro q; simp [setW, w16_id g2 hi.h, wLast, wHours]
    · intro q; simp [setW, w16_id g3 hi.d, wLast, wHours, wDays]
    · intro q; simp [setW, w16_id g4 hi.w, wLast, wHours, wDays, wWeeks]
    · intro q; simp [setW, w16_id g5 hi.m, wLast, wHours, wDays, wWeeks, wMonths]
    · intro q; simp [setW, w16_id g6 hi.y, wLast, wHours, wDays, wWeeks, wMonths, wYears]
    · intro q; simp [setW, wLast, wHours, wDays, wWeeks, wMonths, wYears, wWithin]
  unfold parseP Rule.text
  split
  · rename_i he
    rw [he] at hfold
    rw [cuts_piece (by decide)]
    exact hfold
  · rename_i hne
    rw [cuts_join hne (flat_no32 (pairs_num hi ⟨g1, g2, g3, g4, g5, g6, g7⟩) fun p hp => word_no32 (pairs_word p hp))]
    exact hfold

/-! ### The document's way -/
def setR (f : Bytes) (n : Int) (r : Rule) : Rule :=
  let s := if n ≤ 32767 then w16 n else 0
  if f = wLast then { r with l := s } else if f = wHours then { r with h := s } else if f = wDays then { r with d := s } else
  if f = wWeeks then { r with w := s } else if f = wMonths then { r with m := s } else if f = wYears then { r with y := s } else if f = wWithin then { r with x := n } else r
def refGo (cur : Bytes) : Bytes → Rule → Rule
  | [], r => r
  | b :: t, r => if b = 32 then refGo [] t (setR cur (numGo 0 t) r) else refGo (cur ++ [b]) t r
theorem refGo_piece : ∀ {x : Bytes} (cur : Bytes) (r : Rule), (32 : UInt8) ∉ x → refGo cur x r = r
  | [], cur, r, _ => rfl
  | b :: t, cur, r, h => by
    rw [refGo, if_neg (fun e => h (by simp [e]))]
    exact refGo_piece _ _ fun hm => h (by simp [hm])
theorem refGo_first : ∀ {x : Bytes} (cur t : Bytes) (r : Rule), (32 : UInt8) ∉ x → refGo cur (x ++ 32 :: t) r = refGo [] t (setR (cur ++ x) (numGo 0 t) r)
  | [], cur, t, r, _ => by simp [refGo]
  | b :: x, cur, t, r, h => by
    rw [List.cons_append, refGo, if_neg (fun e => h (by simp [e])), refGo_first _ t r fun hm => h (by simp [hm])]
    simp
theorem setR_num {n k : Int} (h0 : 0 ≤ n) (r : Rule) : setR (itoa n) k r = r := by
  obtain ⟨u, rfl⟩ : ∃ u : Nat, n = (u : Int) := ⟨n.toNat, by omega⟩
  rw [itoa_nonneg]
  have hd := dec_digit u
  have hne : ∀ {f : Bytes} {b : UInt8} {t : Bytes}, f = b :: t → 57 < b.toNat → decDigits u ≠ f := by
    rintro f b t rfl hb he
    have := hd b (by rw [he]; simp)
    omega
  unfold setR
  simp only
  rw [if_neg (hne (f := wLast) rfl (by decide)), if_neg (hne (f := wHours) rfl (by decide)), if_neg (hne (f := wDays) rfl (by decide)), if_neg (hne (f := wWeeks) rfl (by decide)), if_neg (hne (f := wMonths) rfl (by decide)), if_neg (hne (f := wYears) rfl (by decide)), if_neg (hne (f := wWithin) rfl (by decide))]
theorem refGo_flat : ∀ (ps : List (Bytes × Int)) (r : Rule), (∀ p ∈ ps, NumOK p) → (∀ p ∈ ps, (32 : UInt8) ∉ p.1) → refGo [] (join (flat ps) [32]) r = ps.foldl (fun r p => setR p.1 p.2 r) r
  | [], r, _, _ => rfl
  | [p], r, h, hw => by
    have hp := h p (by simp)
    show refGo [] (join [p.1, itoa p.2] [32]) r = _
    rw [join_two, join_one, refGo_first _ _ _ (hw p (by simp)), refGo_piece _ _ (itoa_no32 hp.1)]
    have := num_itoa hp.1 hp.2 []
    rw [List.append_nil] at this
    rw [this]
    rfl
  | p :: q :: ps, r, h, hw => by
    have hp := h p (by simp)
    show refGo [] (join (p.1 :: itoa p.2 :: flat (q :: ps)) [32]) r = _
    have e : flat (q :: ps) = q.1 :: itoa q.2 :: flat ps := rfl
    rw [join_two, refGo_first _ _ _ (hw p (by simp)), e, join_two, ← e, num_itoa hp.1 hp.2, refGo_first _ _ _ (itoa_no32 hp.1), List.nil_append, List.nil_append, setR_num hp.1]
    have : numGo p.2 (32 :: join (flat (q :: ps)) [32]) = p.2 := by rw [numGo, if_pos (by decide)]
    rw [this]
    exact refGo_flat (q :: ps) _ (fun z hz => h z (by simp at hz ⊢; exact .inr hz)) (fun z hz => hw z (by simp at hz ⊢; exact .inr hz))
theorem setR_s {n : Int} (h0 : 0 ≤ n) (h1 : I16 n) : (if n ≤ 32767 then w16 n else 0) = n := by rw [if_pos h1.2, w16_id h0 h1]
theorem refGo_text {r : Rule} (hi : r.In) (hr : r.right) : refGo [] r.text Rule.zero = r := by
  obtain ⟨g1, g2, g3, g4, g5, g6, g7⟩ := hr
  unfold Rule.text
  have hfold : refGo [] (join r.pieces [32]) Rule.zero = r := by
    unfold Rule.pieces
    rw [refGo_flat _ _ (pairs_num hi ⟨g1, g2, g3, g4, g5, g6, g7⟩) (fun p hp => word_no32 (pairs_word p hp))]
    refine fold_all (set := setR) ?_ ?_ ?_ ?_ ?_ ?_ ?_
    · intro q; simp only [setR, setR_s g1 hi.l, if_true]
    · intro q; simp [setR, setR_s g2 hi.h, wLast, wHours]
    · intro q; simp [setR, setR_s g3 hi.d, wLast, wHours, wDays]
    · intro q; simp [setR, setR_s g4 hi.w, wLast, wHours, wDays, wWeeks]
    · intro q; simp [setR, setR_s g5 hi.m, wLast, wHours, wDays, wWeeks, wMonths]
    · intro q; simp [setR, setR_s g6 hi.y, wLast, wHours, wDays, wWeeks, wMonths, wYears]
    · intro q; simp [setR, wLast, wHours, wDays, wWeeks, wMonths, wYears, wWithin]
  split
  · rename_i he
    rw [he] at hfold
    rw [refGo_piece _ _ (by decide)]
    exact hfold
  · exact hfold

/-! ### The document's way of writing -/
def refP : List (Bytes × Int) → Bytes → Bytes
  | [], s => s
  | p :: ps, s => if p.2 = 0 then refP ps s else refP ps ((if s = [] then [] else s ++ [32]) ++ p.1 ++ [32] ++ itoa p.2)
theorem refP_more : ∀ (ps : List (Bytes × Int)) (s : Bytes), s ≠ [] → refP ps s = s ++ joinTail [32] (flat (ps.filter nz))
  | [], s, _ => by simp [refP, flat, joinTail]
  | p :: ps, s, h => by
    unfold refP
    by_cases hp : p.2 = 0
    · rw [if_pos hp, refP_more ps s h, List.filter_cons_of_neg (by simp [nz, hp])]
    · rw [if_neg hp, if_neg h, refP_more ps _ (by simp), List.filter_cons_of_pos (by simp [nz, hp])]
      show _ = s ++ joinTail [32] (p.1 :: itoa p.2 :: flat (ps.filter nz))
      simp [joinTail]
theorem refP_none : ∀ (ps : List (Bytes × Int)), (∀ p ∈ ps, p.1 ≠ []) → refP ps [] = join (flat (ps.filter nz)) [32]
  | [], _ => rfl
  | p :: ps, h => by
    unfold refP
    by_cases hp : p.2 = 0
    · rw [if_pos hp, refP_none ps (fun q hq => h q (by simp [hq])), List.filter_cons_of_neg (by simp [nz, hp])]
    · rw [if_neg hp, if_pos rfl, refP_more ps _ (by simp [h p (by simp)]), List.filter_cons_of_pos (by simp [nz, hp])]
      show _ = join (p.1 :: itoa p.2 :: flat (ps.filter nz)) [32]
      rw [join_cons]
      simp [joinTail]
theorem all_word (r : Rule) : ∀ p ∈ r.all, p.1 ≠ [] := by
  intro p hp
  simp only [Rule.all, List.mem_cons, List.not_mem_nil, or_false] at hp
  rcases hp with rfl | rfl | rfl | rfl | rfl | rfl | rfl <;> exact List.cons_ne_nil _ _
theorem refP_text (r : Rule) : (if refP r.all [] = [] then noneB else refP r.all []) = r.text := by
  rw [refP_none _ (all_word r)]
  unfold Rule.text
  show (if join r.pieces [32] = [] then noneB else join r.pieces [32]) = _
  by_cases hp : r.pieces = []
  · rw [if_pos hp, if_pos (by rw [hp]; rfl)]
  · rw [if_neg hp, if_neg]
    intro hj
    have hps : r.pairs ≠ [] := fun e => hp (by unfold Rule.pieces; rw [e]; rfl)
    obtain ⟨p, ps, e⟩ := List.exists_cons_of_ne_nil hps
    have hw : p.1 ≠ [] := all_word r p (List.mem_filter.1 (show p ∈ r.pairs by rw [e]; simp)).1
    unfold Rule.pieces at hj
    rw [e] at hj
    have : join (p.1 :: itoa p.2 :: flat ps) [32] = [] := hj
    rw [join_cons] at this
    simp at this
    exact hw this.1
theorem text_ne (r : Rule) : r.text ≠ [] := by
  rw [← refP_text]
  split
  · decide
  · assumption
/-- The rule of a text: two valid rules with one text are one. -/
theorem text_inj {r q : Rule} (hi : r.In) (hr : r.right) (hi' : q.In) (hr' : q.right) (h : r.text = q.text) : r = q := by
  have h1 := parseP_text hi hr
  rw [h, parseP_text hi' hr'] at h1
  injection h1 with h1
  exact h1.symm
/-- What reading a text answers: the rule, or the zero one and the error's number. -/
def Answer (t : Bytes) (r : Rule) (e : Int) : Prop := (e = 0 ∧ r.In ∧ r.right ∧ r.text = t) ∨ (e = 280 ∧ r = Rule.zero ∧ ∀ q : Rule, q.In → q.right → q.text ≠ t)
theorem Answer.same {t : Bytes} {r q : Rule} {e f : Int} (h : Answer t r e) (h' : Answer t q f) : r = q ∧ e = f := by
  rcases h with ⟨rfl, h1, h2, h3⟩ | ⟨rfl, rfl, h1⟩ <;> rcases h' with ⟨rfl, g1, g2, g3⟩ | ⟨rfl, rfl, g1⟩
  · exact ⟨text_inj h1 h2 g1 g2 (h3.trans g3.symm), rfl⟩
  · exact absurd h3 (g1 r h1 h2)
  · exact absurd g3 (h1 q g1 g2)
  · exact ⟨rfl, rfl⟩
end Go.Proofs.YtoncjoelkenjnaaDoor.KR
