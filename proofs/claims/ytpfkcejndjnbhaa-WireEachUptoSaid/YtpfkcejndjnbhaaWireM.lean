/- Layer 1 in plain Lean: numbers in bytes, the state of what is taken from, and what each take answers. No program here. -/
import Init
namespace Go.Proofs.Ytpfkcejndjnbhaa.WM

/-! ### what is added -/

def varBytes (v : Nat) : List UInt8 :=
  if h : v < 128 then [UInt8.ofNat v] else UInt8.ofNat (v % 128 + 128) :: varBytes (v / 128)
termination_by v
decreasing_by omega

def fixBytes : Nat → Nat → List UInt8
  | 0, _ => []
  | w + 1, v => UInt8.ofNat (v % 256) :: fixBytes w (v / 256)

theorem varBytes_small {v : Nat} (h : v < 128) : varBytes v = [UInt8.ofNat v] := by rw [varBytes, dif_pos h]
theorem varBytes_big {v : Nat} (h : ¬ v < 128) : varBytes v = UInt8.ofNat (v % 128 + 128) :: varBytes (v / 128) := by rw [varBytes, dif_neg h]
theorem fixBytes_length (w v : Nat) : (fixBytes w v).length = w := by
  induction w generalizing v with
  | zero => rfl
  | succ w ih => simp [fixBytes, ih]
theorem varBytes_pos (v : Nat) : 0 < (varBytes v).length := by
  rw [varBytes]; split <;> simp

/-! ### what is taken from -/

/-- Where one stands; or what stopped it. -/
inductive St where
  | live (at_ : Nat)
  | dead (at_ code : Nat)

def varGo (bs : List UInt8) (p most : Nat) : Nat → Nat → Nat → St × Nat
  | 0, _, _ => (.live p, 0)
  | f + 1, i, v =>
    match bs[p + i]? with
    | none => (.dead p 10, 0)
    | some b =>
      if i = 9 ∧ 1 < b.toNat then (.dead p 11, 0)
      else if b.toNat < 128 then
        if b.toNat = 0 ∧ 0 < i then (.dead p 11, 0)
        else if most < v + b.toNat * 128 ^ i then (.dead p 12, 0)
        else (.live (p + i + 1), v + b.toNat * 128 ^ i)
      else varGo bs p most f (i + 1) (v + b.toNat % 128 * 128 ^ i)

def varA (bs : List UInt8) (s : St) (most : Nat) : St × Nat :=
  match s with
  | .dead a c => (.dead a c, 0)
  | .live p => varGo bs p most 10 0 0

def rawA (bs : List UInt8) (s : St) (n : Int) : St × List UInt8 :=
  match s with
  | .dead a c => (.dead a c, [])
  | .live p => if n ≤ 0 then (.live p, []) else if n.toNat ≤ bs.length - p then (.live (p + n.toNat), (bs.drop p).take n.toNat) else (.dead p 10, [])

def textA (bs : List UInt8) (s : St) (most : Int) : St × List UInt8 :=
  match s with
  | .dead a c => (.dead a c, [])
  | .live p =>
    match varGo bs p most.toNat 10 0 0 with
    | (.dead a c, _) => (.dead a c, [])
    | (.live q, n) => if n ≤ bs.length - q then (.live (q + n), (bs.drop q).take n) else (.dead p 10, [])

def keyOf (l : List UInt8) : List UInt8 := if l = [] then List.replicate 32 0 else l
def keyA (bs : List UInt8) (s : St) : St × List UInt8 := ((rawA bs s 32).1, keyOf (rawA bs s 32).2)

/-- Bytes as a number, the lowest first. -/
def le : List UInt8 → Nat
  | [] => 0
  | b :: l => b.toNat + 256 * le l

def fixA (bs : List UInt8) (s : St) (w : Nat) : St × Nat := ((rawA bs s w).1, le (rawA bs s w).2)

def listA (bs : List UInt8) (s : St) (most : Int) : St × List UInt8 :=
  match s with
  | .dead a c => (.dead a c, [])
  | .live p =>
    match varGo bs p most.toNat 10 0 0 with
    | (.dead a c, _) => (.dead a c, [])
    | (.live q, n) => if n ≤ bs.length - q then (.live (q + n), (bs.drop q).take n) else (.dead bs.length 10, [])

/-- A number of w bytes as the 64 bits of a signed one. -/
def sgn (v w : Nat) : Nat := if 2 * v < 256 ^ w then v else v + (2 ^ 64 - 256 ^ w)

/-- A kind's width. -/
def width (k : Int) : Nat := if k = 5 ∨ k = 6 then 1 else if k = 7 ∨ k = 8 then 2 else if k = 9 ∨ k = 10 then 4 else if k = 11 ∨ k = 12 then 8 else 0

/-- What a take answers: the state, the number, the bytes. -/
def takeA (bs : List UInt8) (s : St) (kind : Int) (most : Nat) (n : Int) : St × Nat × List UInt8 :=
  if kind = 1 then ((varA bs s most).1, (varA bs s most).2, [])
  else if kind = 2 then ((textA bs s n).1, 0, (textA bs s n).2)
  else if kind = 3 then ((rawA bs s n).1, 0, (rawA bs s n).2)
  else if kind = 4 then ((keyA bs s).1, 0, (keyA bs s).2)
  else if kind = 6 ∨ kind = 8 ∨ kind = 10 ∨ kind = 12 then ((fixA bs s (width kind)).1, (fixA bs s (width kind)).2, [])
  else if kind = 5 ∨ kind = 7 ∨ kind = 9 ∨ kind = 11 then ((fixA bs s (width kind)).1, sgn (fixA bs s (width kind)).2 (width kind), [])
  else if kind = 13 then ((listA bs s n).1, 0, (listA bs s n).2)
  else (s, 0, [])

def placeA : St → Nat
  | .live p => p
  | .dead a _ => a
def leftA (bs : List UInt8) : St → Nat
  | .live p => bs.length - p
  | .dead _ _ => 0
/-- End: the fault's place and code; nothing: there is none. -/
def endA (bs : List UInt8) : St → Option (Nat × Nat)
  | .live p => if p < bs.length then some (p, 13) else none
  | .dead a c => some (a, c)

/-- A state that may be. -/
def Fit (bs : List UInt8) : St → Prop
  | .live p => p ≤ bs.length
  | .dead a _ => a ≤ bs.length

theorem varGo_fit (bs : List UInt8) (p most : Nat) (hp : p ≤ bs.length) : ∀ f i v, p + i ≤ bs.length → Fit bs (varGo bs p most f i v).1 := by
  intro f
  induction f with
  | zero => intro i v h; exact hp
  | succ f ih =>
    intro i v h
    unfold varGo
    cases hb : bs[p + i]? with
    | none => exact hp
    | some b =>
      have hlt : p + i < bs.length := (List.getElem?_eq_some_iff.1 hb).1
      simp only
      split
      · exact hp
      · split
        · split
          · exact hp
          · split
            · exact hp
            · exact hlt
        · exact ih _ _ (by omega)

/-- Of what a number's take leaves: it stands behind where it stood. -/
theorem varGo_live (bs : List UInt8) (p most : Nat) : ∀ f i v q n, p + i ≤ bs.length → v < 128 ^ i → f + i = 10 → varGo bs p most f i v = (.live q, n) → (p < q ∧ q ≤ bs.length ∧ n ≤ most ∧ n < 2 ^ 64) ∨ f = 0 := by
  intro f
  induction f with
  | zero => intro i v q n _ _ _ _; exact .inr rfl
  | succ f ih =>
    intro i v q n h hv hf e
    left
    unfold varGo at e
    cases hb : bs[p + i]? with
    | none => rw [hb] at e; cases e
    | some b =>
      have hlt : p + i < bs.length := (List.getElem?_eq_some_iff.1 hb).1
      rw [hb] at e
      simp only at e
      split at e
      · cases e
      · rename_i h9
        split at e
        · split at e
          · cases e
          · split at e
            · cases e
            · rename_i h128 _ hm
              injection e with e1 e2
              injection e1 with e1
              subst e1 e2
              refine ⟨by omega, by omega, by omega, ?_⟩
              by_cases hi : i = 9
              · subst hi
                have : b.toNat ≤ 1 := by omega
                have h2 : b.toNat * 128 ^ 9 ≤ 1 * 128 ^ 9 := Nat.mul_le_mul_right _ this
                have : (128 : Nat) ^ 9 = 2 ^ 63 := by decide
                omega
              · have h1 : b.toNat * 128 ^ i ≤ 127 * 128 ^ i := Nat.mul_le_mul_right _ (by omega)
                have h2 : (128 : Nat) ^ (i + 1) ≤ 128 ^ 9 := Nat.pow_le_pow_right (by decide) (by omega)
                rw [Nat.pow_succ] at h2
                have : (128 : Nat) ^ 9 = 2 ^ 63 := by decide
                omega
        · rename_i h128
          have hi : i ≠ 9 := by rintro rfl; omega
          rcases ih (i + 1) _ q n (by omega) (by
              have h1 : b.toNat % 128 * 128 ^ i ≤ 127 * 128 ^ i := Nat.mul_le_mul_right _ (by omega)
              rw [Nat.pow_succ]; omega) (by omega) e with h | h
          · exact h
          · omega

theorem varGo_10 (bs : List UInt8) (p most q n : Nat) (hp : p ≤ bs.length) (e : varGo bs p most 10 0 0 = (.live q, n)) : p < q ∧ q ≤ bs.length ∧ n ≤ most ∧ n < 2 ^ 64 := by
  rcases varGo_live bs p most 10 0 0 q n (by omega) (by decide) (by omega) e with h | h
  · exact h
  · omega

theorem varA_fit (bs : List UInt8) (s : St) (most : Nat) (h : Fit bs s) : Fit bs (varA bs s most).1 := by
  cases s with
  | dead a c => exact h
  | live p => exact varGo_fit bs p most h 10 0 0 h
theorem rawA_fit (bs : List UInt8) (s : St) (n : Int) (h : Fit bs s) : Fit bs (rawA bs s n).1 := by
  cases s with
  | dead a c => exact h
  | live p =>
    simp only [rawA]
    simp only [Fit] at h
    split
    · exact h
    · split
      · simp only [Fit]; omega
      · exact h
theorem textA_fit (bs : List UInt8) (s : St) (n : Int) (h : Fit bs s) : Fit bs (textA bs s n).1 := by
  cases s with
  | dead a c => exact h
  | live p =>
    simp only [textA]
    simp only [Fit] at h
    cases e : varGo bs p n.toNat 10 0 0 with
    | mk s' k =>
      have hf := varGo_fit bs p n.toNat h 10 0 0 (by omega)
      rw [e] at hf
      cases s' with
      | dead a c => exact hf
      | live q =>
        simp only [Fit] at hf
        simp only
        split
        · simp only [Fit]; omega
        · exact h
theorem listA_fit (bs : List UInt8) (s : St) (n : Int) (h : Fit bs s) : Fit bs (listA bs s n).1 := by
  cases s with
  | dead a c => exact h
  | live p =>
    simp only [listA]
    simp only [Fit] at h
    cases e : varGo bs p n.toNat 10 0 0 with
    | mk s' k =>
      have hf := varGo_fit bs p n.toNat h 10 0 0 (by omega)
      rw [e] at hf
      cases s' with
      | dead a c => exact hf
      | live q =>
        simp only [Fit] at hf
        simp only
        split
        · simp only [Fit]; omega
        · simp [Fit]
theorem takeA_fit (bs : List UInt8) (s : St) (k : Int) (most : Nat) (n : Int) (h : Fit bs s) : Fit bs (takeA bs s k most n).1 := by
  unfold takeA keyA fixA
  repeat' split
  all_goals first | exact varA_fit bs s most h | exact textA_fit bs s n h | exact rawA_fit bs s _ h | exact listA_fit bs s n h | exact h

theorem rawA_length (bs : List UInt8) (s : St) (n : Int) : (rawA bs s n).2.length ≤ bs.length := by
  cases s with
  | dead a c => simp [rawA]
  | live p =>
    simp only [rawA]
    split
    · simp
    · split
      · simp; omega
      · simp

end Go.Proofs.Ytpfkcejndjnbhaa.WM
