/- What was added is taken off again: in plain Lean. -/
import Derived.Test.YtpfkcejndjnbhaaOpenA
namespace Go.Proofs.Ytpfkcejndjnbhaa.BK
open Go.Proofs.Ytpfkcejndjnbhaa.WM Go.Proofs.Ytpfkcejndjnbhaa.OP Go.Proofs.Ytpfkcejndjnbhaa.EN
set_option linter.unusedVariables false
set_option linter.unusedSimpArgs false

theorem varGo_back (bs rest : List UInt8) (p most : Nat) : ∀ f i acc u, f + i = 10 → bs.drop (p + i) = varBytes u ++ rest → acc + u * 128 ^ i ≤ most → acc + u * 128 ^ i < 18446744073709551616 → (0 < i → 0 < u) →
    varGo bs p most f i acc = (.live (p + i + (varBytes u).length), acc + u * 128 ^ i) := by
  intro f
  induction f with
  | zero =>
    intro i acc u hf hd hm h64 hu
    have hi : i = 10 := by omega
    subst hi
    have := hu (by omega)
    have h1 : 1 * 128 ^ 10 ≤ u * 128 ^ 10 := Nat.mul_le_mul_right _ this
    have h2 : (128 : Nat) ^ 10 = 1180591620717411303424 := by decide
    omega
  | succ f ih =>
    intro i acc u hf hd hm h64 hu
    have hpow : (128 : Nat) ^ 9 = 9223372036854775808 := by decide
    by_cases c : u < 128
    · rw [varBytes_small c] at hd ⊢
      have hb : bs[p + i]? = some (UInt8.ofNat u) := by
        have := congrArg (·[0]?) hd
        simpa using this
      have ht : (UInt8.ofNat u).toNat = u := by rw [UInt8.toNat_ofNat']; omega
      unfold varGo
      rw [hb]
      simp only [ht]
      have h9 : ¬ (i = 9 ∧ 1 < u) := by
        rintro ⟨rfl, h1⟩
        have : 2 * 128 ^ 9 ≤ u * 128 ^ 9 := Nat.mul_le_mul_right _ (by omega)
        omega
      rw [if_neg h9, if_pos c, if_neg (by rintro ⟨h0, h1⟩; have := hu h1; omega), if_neg (by omega)]
      simp
    · rw [varBytes_big c] at hd ⊢
      have hb : bs[p + i]? = some (UInt8.ofNat (u % 128 + 128)) := by
        have := congrArg (·[0]?) hd
        simpa using this
      have ht : (UInt8.ofNat (u % 128 + 128)).toNat = u % 128 + 128 := by rw [UInt8.toNat_ofNat']; omega
      have hi9 : i < 9 := by
        rcases Nat.lt_or_ge i 9 with h | h
        · exact h
        · have h1 : (128 : Nat) ^ 9 ≤ 128 ^ i := Nat.pow_le_pow_right (by decide) h
          have h2 : 128 * 128 ^ i ≤ u * 128 ^ i := Nat.mul_le_mul_right _ (by omega)
          omega
      unfold varGo
      rw [hb]
      simp only [ht]
      rw [if_neg (by omega), if_neg (by omega)]
      have hd2 : bs.drop (p + (i + 1)) = varBytes (u / 128) ++ rest := by
        have := congrArg (List.drop 1) hd
        rw [List.drop_drop] at this
        simpa [Nat.add_assoc] using this
      have he : acc + (u % 128 + 128) % 128 * 128 ^ i + u / 128 * 128 ^ (i + 1) = acc + u * 128 ^ i := by
        have h1 : (u % 128 + 128) % 128 = u % 128 := by omega
        rw [h1, Nat.pow_succ]
        have h2 : u = u % 128 + u / 128 * 128 := by omega
        have h3 : u * 128 ^ i = u % 128 * 128 ^ i + u / 128 * (128 ^ i * 128) := by
          conv => lhs; rw [h2, Nat.add_mul, Nat.mul_assoc, Nat.mul_comm 128]
        omega
      rw [ih (i + 1) _ (u / 128) (by omega) hd2 (by rw [he]; exact hm) (by rw [he]; exact h64) (fun _ => by omega), he]
      simp only [List.length_cons]
      congr 2
      omega

theorem varA_back {bs rest : List UInt8} {p most v : Nat} (hd : bs.drop p = varBytes v ++ rest) (hm : v ≤ most) (hv : v < 18446744073709551616) : varGo bs p most 10 0 0 = (.live (p + (varBytes v).length), v) := by
  have := varGo_back bs rest p most 10 0 0 v (by omega) hd (by simpa using hm) (by simpa using hv) (fun h => absurd h (Nat.lt_irrefl _))
  simpa using this

theorem le_fix : ∀ (W v : Nat), le (fixBytes W v) = v % 256 ^ W := by
  intro W
  induction W with
  | zero => intro v; simp [fixBytes, le, Nat.mod_one]
  | succ W ih =>
    intro v
    simp only [fixBytes, le, ih]
    have ht : (UInt8.ofNat (v % 256)).toNat = v % 256 := by rw [UInt8.toNat_ofNat']; omega
    rw [ht, Nat.pow_succ', Nat.mod_mul]

theorem drop_len {bs a rest : List UInt8} {p : Nat} (hd : bs.drop p = a ++ rest) : a.length ≤ bs.length - p := by
  have := congrArg List.length hd
  simp at this
  omega
theorem rawA_back {bs a rest : List UInt8} {p : Nat} (hd : bs.drop p = a ++ rest) : rawA bs (.live p) (a.length : Int) = (.live (p + a.length), a) := by
  have h1 := drop_len hd
  simp only [rawA]
  by_cases h0 : a.length = 0
  · have : a = [] := List.eq_nil_of_length_eq_zero h0
    subst this; simp
  · rw [if_neg (by omega), Int.toNat_natCast, if_pos h1, hd, List.take_left]

/-- The take that gives an add back. -/
def backM (a : AddI) : Nat := if a.kind = 2 ∨ a.kind = 3 ∨ a.kind = 13 then 0 else a.N
def backN (a : AddI) : Int := if a.kind = 2 then a.S.length else if a.kind = 3 ∨ a.kind = 13 then a.B.length else 0
/-- What it gives. -/
def sameN (a : AddI) : Nat :=
  if a.kind = 1 ∨ a.kind = 12 ∨ a.kind = 11 then a.N else if a.kind = 6 ∨ a.kind = 8 ∨ a.kind = 10 then a.N % 256 ^ WM.width a.kind else if a.kind = 5 ∨ a.kind = 7 ∨ a.kind = 9 then sgn (a.N % 256 ^ WM.width a.kind) (WM.width a.kind) else 0
def sameB (a : AddI) : List UInt8 := if a.kind = 2 then a.S else if a.kind = 3 ∨ a.kind = 13 then a.B else if a.kind = 4 then a.K else []

theorem text_back {bs s rest : List UInt8} {p : Nat} (hd : bs.drop p = varBytes s.length ++ s ++ rest) (hs : s.length < 18446744073709551616) :
    textA bs (.live p) (s.length : Int) = (.live (p + (varBytes s.length ++ s).length), s) ∧ listA bs (.live p) (s.length : Int) = (.live (p + (varBytes s.length ++ s).length), s) := by
  have hd1 : bs.drop p = varBytes s.length ++ (s ++ rest) := by rw [hd, List.append_assoc]
  have hv := varA_back hd1 (Nat.le_refl _) hs
  have hd2 : bs.drop (p + (varBytes s.length).length) = s ++ rest := by
    have := congrArg (List.drop (varBytes s.length).length) hd1
    rw [List.drop_drop, List.drop_left] at this
    exact this
  have hl := drop_len hd2
  have ht : (bs.drop (p + (varBytes s.length).length)).take s.length = s := by rw [hd2, List.take_left]
  constructor
  · simp only [textA, Int.toNat_natCast, hv]
    rw [if_pos hl, ht]
    simp [Nat.add_assoc]
  · simp only [listA, Int.toNat_natCast, hv]
    rw [if_pos hl, ht]
    simp [Nat.add_assoc]

theorem fix_back {bs rest : List UInt8} {p W N : Nat} (hd : bs.drop p = fixBytes W N ++ rest) : fixA bs (.live p) W = (.live (p + W), N % 256 ^ W) := by
  have h := rawA_back hd
  rw [fixBytes_length] at h
  simp only [fixA, h, le_fix]

theorem sgn_8 (v : Nat) : sgn v 8 = v := by unfold sgn; split <;> simp

theorem take_back {bs rest : List UInt8} {p : Nat} (a : AddI) (ok : a.ok) (hS : a.S.length < 18446744073709551616) (hB : a.B.length < 18446744073709551616) (hd : bs.drop p = a.bytes ++ rest) :
    takeA bs (.live p) a.kind (backM a) (backN a) = (.live (p + a.bytes.length), sameN a, sameB a) := by
  obtain ⟨hN, hK⟩ := ok
  obtain ⟨k, N, S, B, K⟩ := a
  simp only [AddI.bytes] at hd hN hK hS hB ⊢
  by_cases h1 : k = 1
  · subst h1
    have e : addA 1 N S B K = varBytes N := rfl
    rw [e] at hd ⊢
    have hv := varA_back hd (Nat.le_refl N) hN
    have hb : backM ⟨1, N, S, B, K⟩ = N := rfl
    rw [hb]
    show ((varA bs (.live p) N).1, (varA bs (.live p) N).2, []) = _
    simp only [varA, hv]
    rfl
  by_cases h2 : k = 2
  · subst h2
    have e : addA 2 N S B K = varBytes S.length ++ S := rfl
    rw [e] at hd ⊢
    have hv := (text_back hd hS).1
    show ((textA bs (.live p) (S.length : Int)).1, 0, (textA bs (.live p) (S.length : Int)).2) = _
    rw [hv]; rfl
  by_cases h3 : k = 3
  · subst h3
    have e : addA 3 N S B K = B := rfl
    rw [e] at hd ⊢
    have hv := rawA_back hd
    show ((rawA bs (.live p) (B.length : Int)).1, 0, (rawA bs (.live p) (B.length : Int)).2) = _
    rw [hv]; rfl
  by_cases h4 : k = 4
  · subst h4
    have e : addA 4 N S B K = K := rfl
    rw [e] at hd ⊢
    have hv := rawA_back hd
    rw [hK] at hv ⊢
    show ((rawA bs (.live p) 32).1, 0, WM.keyOf (rawA bs (.live p) 32).2) = _
    have hv' : rawA bs (.live p) 32 = (.live (p + 32), K) := hv
    rw [hv']
    have hk : WM.keyOf K = K := by unfold WM.keyOf; rw [if_neg (by rintro rfl; simp at hK)]
    simp only [hk]
    rfl
  by_cases h13 : k = 13
  · subst h13
    have e : addA 13 N S B K = varBytes B.length ++ B := rfl
    rw [e] at hd ⊢
    have hv := (text_back hd hB).2
    show ((listA bs (.live p) (B.length : Int)).1, 0, (listA bs (.live p) (B.length : Int)).2) = _
    rw [hv]; rfl
  have e : addA k N S B K = fixBytes (WM.width k) N := by unfold addA; rw [if_neg h1, if_neg h2, if_neg h3, if_neg h4, if_neg h13]
  rw [e] at hd ⊢
  have hf := fix_back hd
  rw [fixBytes_length]
  have hb : sameB ⟨k, N, S, B, K⟩ = [] := by simp [sameB, *]
  rw [hb]
  by_cases hu : k = 6 ∨ k = 8 ∨ k = 10 ∨ k = 12
  · have ht : takeA bs (.live p) k (backM ⟨k, N, S, B, K⟩) (backN ⟨k, N, S, B, K⟩) = ((fixA bs (.live p) (WM.width k)).1, (fixA bs (.live p) (WM.width k)).2, []) := by
      unfold takeA; rw [if_neg h1, if_neg h2, if_neg h3, if_neg h4, if_pos hu]
    rw [ht, hf]
    rcases hu with rfl | rfl | rfl | rfl
    · rfl
    · rfl
    · rfl
    · simp [sameN, WM.width]; omega
  by_cases hs : k = 5 ∨ k = 7 ∨ k = 9 ∨ k = 11
  · have ht : takeA bs (.live p) k (backM ⟨k, N, S, B, K⟩) (backN ⟨k, N, S, B, K⟩) = ((fixA bs (.live p) (WM.width k)).1, sgn (fixA bs (.live p) (WM.width k)).2 (WM.width k), []) := by
      unfold takeA; rw [if_neg h1, if_neg h2, if_neg h3, if_neg h4, if_neg hu, if_pos hs]
    rw [ht, hf]
    rcases hs with rfl | rfl | rfl | rfl
    · rfl
    · rfl
    · rfl
    · simp [sameN, WM.width, sgn_8]; omega
  have hw : WM.width k = 0 := by unfold WM.width; rw [if_neg (by omega), if_neg (by omega), if_neg (by omega), if_neg (by omega)]
  have ht : takeA bs (.live p) k (backM ⟨k, N, S, B, K⟩) (backN ⟨k, N, S, B, K⟩) = (.live p, 0, []) := by
    unfold takeA; rw [if_neg h1, if_neg h2, if_neg h3, if_neg h4, if_neg hu, if_neg hs, if_neg h13]
  rw [ht, hw]
  have hsn : sameN ⟨k, N, S, B, K⟩ = 0 := by
    unfold sameN
    simp only
    rw [if_neg (by omega), if_neg (by omega), if_neg (by omega)]
  rw [hsn]
  rfl

end Go.Proofs.Ytpfkcejndjnbhaa.BK
