/- What is taken, added again, gives the bytes that were taken from: in plain Lean. -/
import Derived.Test.YtpfkcejndjnbhaaBackM
namespace Go.Proofs.Ytpfkcejndjnbhaa.ON
open Go.Proofs.Ytpfkcejndjnbhaa.WM Go.Proofs.Ytpfkcejndjnbhaa.OP Go.Proofs.Ytpfkcejndjnbhaa.EN Go.Proofs.Ytpfkcejndjnbhaa.BK
set_option linter.unusedVariables false
set_option linter.unusedSimpArgs false

theorem varGo_only (bs : List UInt8) (p most : Nat) : ∀ f i acc q v, f + i = 10 → varGo bs p most f i acc = (.live q, v) → f ≠ 0 →
    (∃ u, v = acc + u * 128 ^ i ∧ bs.drop (p + i) = varBytes u ++ bs.drop q ∧ (0 < i → 0 < u) ∧ p + i < q ∧ q = p + i + (varBytes u).length ∧ q ≤ bs.length) ∨ (q = p ∧ v = 0 ∧ False) := by
  intro f
  induction f with
  | zero => intro i acc q v _ _ h; exact absurd rfl h
  | succ f ih =>
    intro i acc q v hf e _
    left
    unfold varGo at e
    cases hb : bs[p + i]? with
    | none => rw [hb] at e; cases e
    | some b =>
      have hlt : p + i < bs.length := (List.getElem?_eq_some_iff.1 hb).1
      have hbv : bs[p + i] = b := (List.getElem?_eq_some_iff.1 hb).2
      have hd : bs.drop (p + i) = b :: bs.drop (p + i + 1) := by rw [List.drop_eq_getElem_cons hlt, hbv]
      rw [hb] at e
      simp only at e
      split at e
      · cases e
      · rename_i h9
        split at e
        · rename_i h128
          split at e
          · cases e
          · rename_i hz
            split at e
            · cases e
            · injection e with e1 e2
              injection e1 with e1
              subst e1 e2
              refine ⟨b.toNat, rfl, ?_, fun hi => by omega, by omega, ?_, by omega⟩
              · rw [varBytes_small h128, hd]
                simp
              · rw [varBytes_small h128]; rfl
        · rename_i h128
          have hi : i ≠ 9 := by rintro rfl; omega
          rcases ih (i + 1) _ q v (by omega) e (by omega) with ⟨u, hv, hdr, hu, hpq, hq, hql⟩ | ⟨_, _, h⟩
          · have hu0 := hu (by omega)
            have hb2 := b.toNat_lt
            refine ⟨b.toNat % 128 + u * 128, ?_, ?_, fun _ => by omega, by omega, ?_, hql⟩
            · rw [hv, Nat.pow_succ, Nat.add_mul, Nat.mul_assoc, Nat.mul_comm 128]; omega
            · rw [hd, varBytes_big (by omega), show p + i + 1 = p + (i + 1) by omega, hdr]
              have h1 : (b.toNat % 128 + u * 128) / 128 = u := by omega
              have h2 : UInt8.ofNat ((b.toNat % 128 + u * 128) % 128 + 128) = b := by
                apply UInt8.toNat_inj.1; rw [UInt8.toNat_ofNat']; omega
              rw [h1, h2]; rfl
            · rw [varBytes_big (by omega), show (b.toNat % 128 + u * 128) / 128 = u by omega]
              simp only [List.length_cons]; omega
          · exact h.elim

theorem varGo_10o {bs : List UInt8} {p most q v : Nat} (e : varGo bs p most 10 0 0 = (.live q, v)) : bs.drop p = varBytes v ++ bs.drop q ∧ q = p + (varBytes v).length ∧ q ≤ bs.length := by
  rcases varGo_only bs p most 10 0 0 q v (by omega) e (by omega) with ⟨u, hv, hd, _, _, hq, hql⟩ | ⟨_, _, h⟩
  · have : v = u := by simpa using hv
    subst this
    exact ⟨by simpa using hd, by omega, hql⟩
  · exact h.elim

theorem fix_le : ∀ X : List UInt8, fixBytes X.length (le X) = X := by
  intro X
  induction X with
  | nil => rfl
  | cons b X ih =>
    have hb := b.toNat_lt
    simp only [List.length_cons, le, fixBytes]
    rw [show (b.toNat + 256 * le X) / 256 = le X by omega, ih, show (b.toNat + 256 * le X) % 256 = b.toNat by omega]
    simp

theorem sgn_mod (v W : Nat) (hW : W ≤ 8) : sgn v W % 256 ^ W = v % 256 ^ W := by
  unfold sgn
  split
  · rfl
  · have h1 : (2 : Nat) ^ 64 = 256 ^ (8 - W) * 256 ^ W := by rw [← Nat.pow_add, show 8 - W + W = 8 by omega]
    have h2 : 0 < 256 ^ (8 - W) := Nat.pow_pos (by decide)
    have h3 : 2 ^ 64 - 256 ^ W = (256 ^ (8 - W) - 1) * 256 ^ W := by rw [h1, Nat.sub_mul, Nat.one_mul]
    rw [h3, Nat.add_mul_mod_self_right]

/-- The key that 'again' makes. -/
def againK (kind : Int) (B : List UInt8) : List UInt8 := if kind = 4 then B else List.replicate 32 0

theorem drop_take {bs a : List UInt8} {p q : Nat} (hd : bs.drop p = a ++ bs.drop q) (hq : q = p + a.length) (hl : p ≤ bs.length) : bs.take p ++ a = bs.take q := by
  have h1 : bs.take q = bs.take p ++ (bs.drop p).take a.length := by rw [hq, List.take_add]
  rw [h1, hd, List.take_left]

theorem raw_only {bs B : List UInt8} {p q : Nat} {n : Int} (hp : p ≤ bs.length) (e1 : (rawA bs (.live p) n).1 = .live q) (e3 : (rawA bs (.live p) n).2 = B) : bs.take p ++ B = bs.take q ∧ q ≤ bs.length ∧ bs.drop p = B ++ bs.drop q ∧ q = p + B.length := by
  simp only [rawA] at e1 e3
  split at e1
  · rename_i h
    rw [if_pos h] at e3
    injection e1 with e1
    subst e1 e3
    exact ⟨by simp, hp, by simp, by simp⟩
  · rename_i h
    rw [if_neg h] at e3
    split at e1
    · rename_i h2
      rw [if_pos h2] at e3
      injection e1 with e1
      have hB : B.length = n.toNat := by rw [← e3]; simp; omega
      have hd : bs.drop p = B ++ bs.drop q := by rw [← e3, ← e1, ← List.drop_drop, List.take_append_drop]
      exact ⟨drop_take hd (by omega) hp, by omega, hd, by omega⟩
    · cases e1

theorem fix_only {bs : List UInt8} {p q N W : Nat} (hp : p ≤ bs.length) (hW : W ≤ 8) (e1 : (fixA bs (.live p) W).1 = .live q) (e2 : N % 256 ^ W = (fixA bs (.live p) W).2 % 256 ^ W) : bs.take p ++ fixBytes W N = bs.take q ∧ q ≤ bs.length := by
  simp only [fixA] at e1 e2
  obtain ⟨X, hX⟩ : ∃ X, X = (rawA bs (.live p) W).2 := ⟨_, rfl⟩
  obtain ⟨h1, h2, h3, h4⟩ := raw_only hp e1 hX.symm
  have hl : X.length = W := by
    rw [hX]
    simp only [rawA] at e1 ⊢
    by_cases h0 : (W : Int) ≤ 0
    · rw [if_pos h0]; simp; omega
    · rw [if_neg h0] at e1 ⊢
      rw [Int.toNat_natCast] at e1 ⊢
      by_cases h5 : W ≤ bs.length - p
      · rw [if_pos h5]; simp; omega
      · rw [if_neg h5] at e1; cases e1
  rw [← hX] at e2
  rw [fixBytes_mod W N (le X) e2, ← hl, fix_le]
  exact ⟨h1, h2⟩

theorem only_take {bs : List UInt8} {p q : Nat} (kind : Int) (most : Nat) (n : Int) (N : Nat) (B : List UInt8) (hp : p ≤ bs.length) (h : takeA bs (.live p) kind most n = (.live q, N, B)) :
    bs.take p ++ addA kind N B B (againK kind B) = bs.take q ∧ q ≤ bs.length := by
  unfold takeA at h
  by_cases h1 : kind = 1
  · rw [if_pos h1] at h
    simp only [Prod.mk.injEq] at h
    obtain ⟨e1, e2, e3⟩ := h
    have hv : varGo bs p most 10 0 0 = (.live q, N) := Prod.ext e1 e2
    obtain ⟨hd, hq, hl⟩ := varGo_10o hv
    have e : addA kind N B B (againK kind B) = varBytes N := by unfold addA; rw [if_pos h1]
    rw [e]
    exact ⟨drop_take hd hq hp, hl⟩
  rw [if_neg h1] at h
  by_cases h2 : kind = 2
  · rw [if_pos h2] at h
    simp only [Prod.mk.injEq] at h
    obtain ⟨e1, _, e3⟩ := h
    have e : addA kind N B B (againK kind B) = varBytes B.length ++ B := by unfold addA; rw [if_neg h1, if_pos h2]
    rw [e]
    simp only [textA] at e1 e3
    cases hv : varGo bs p n.toNat 10 0 0 with
    | mk s1 v =>
      rw [hv] at e1 e3
      cases s1 with
      | dead a c => cases e1
      | live q1 =>
        simp only at e1 e3
        split at e1
        · rename_i hle
          rw [if_pos hle] at e3
          injection e1 with e1
          obtain ⟨hd, hq, hl⟩ := varGo_10o hv
          have hB : B.length = v := by rw [← e3]; simp; omega
          have hd2 : bs.drop q1 = B ++ bs.drop q := by
            rw [← e3, ← e1, ← List.drop_drop, List.take_append_drop]
          rw [hB]
          refine ⟨drop_take ?_ ?_ hp, by omega⟩
          · rw [hd, hd2, List.append_assoc]
          · simp; omega
        · cases e1
  rw [if_neg h2] at h
  by_cases h3 : kind = 3
  · rw [if_pos h3] at h
    simp only [Prod.mk.injEq] at h
    obtain ⟨e1, _, e3⟩ := h
    have e : addA kind N B B (againK kind B) = B := by unfold addA; rw [if_neg h1, if_neg h2, if_pos h3]
    rw [e]
    obtain ⟨r1, r2, _⟩ := raw_only hp e1 e3
    exact ⟨r1, r2⟩
  rw [if_neg h3] at h
  by_cases h4 : kind = 4
  · rw [if_pos h4] at h
    simp only [Prod.mk.injEq] at h
    obtain ⟨e1, _, e3⟩ := h
    have e : addA kind N B B (againK kind B) = B := by unfold addA againK; rw [if_neg h1, if_neg h2, if_neg h3, if_pos h4, if_pos h4]
    rw [e]
    obtain ⟨X, hX⟩ : ∃ X, X = (rawA bs (.live p) 32).2 := ⟨_, rfl⟩
    have e1' : (rawA bs (.live p) 32).1 = .live q := e1
    obtain ⟨r1, r2, r3, r4⟩ := raw_only hp e1' hX.symm
    have hXB : B = X := by
      rw [← e3, hX]
      show WM.keyOf (rawA bs (.live p) 32).2 = _
      unfold WM.keyOf
      split
      · rename_i h0
        simp only [rawA] at e1' h0
        rw [if_neg (by decide)] at e1' h0
        have ht : (32 : Int).toNat = 32 := rfl
        rw [ht] at e1' h0
        by_cases h5 : 32 ≤ bs.length - p
        · rw [if_pos h5] at h0
          have := congrArg List.length h0
          simp at this; omega
        · rw [if_neg h5] at e1'; cases e1'
      · rfl
    rw [hXB]
    exact ⟨r1, r2⟩
  rw [if_neg h4] at h
  by_cases hu : kind = 6 ∨ kind = 8 ∨ kind = 10 ∨ kind = 12
  · rw [if_pos hu] at h
    simp only [Prod.mk.injEq] at h
    obtain ⟨e1, e2, e3⟩ := h
    have e : addA kind N B B (againK kind B) = fixBytes (WM.width kind) N := by unfold addA; rw [if_neg h1, if_neg h2, if_neg h3, if_neg h4, if_neg (by omega)]
    rw [e]
    exact fix_only hp (by unfold WM.width; (repeat' split) <;> omega) e1 (by rw [e2])
  rw [if_neg hu] at h
  by_cases hs : kind = 5 ∨ kind = 7 ∨ kind = 9 ∨ kind = 11
  · rw [if_pos hs] at h
    simp only [Prod.mk.injEq] at h
    obtain ⟨e1, e2, e3⟩ := h
    have hw : WM.width kind ≤ 8 := by unfold WM.width; (repeat' split) <;> omega
    have e : addA kind N B B (againK kind B) = fixBytes (WM.width kind) N := by unfold addA; rw [if_neg h1, if_neg h2, if_neg h3, if_neg h4, if_neg (by omega)]
    rw [e]
    exact fix_only hp hw e1 (by rw [← e2, sgn_mod _ _ hw])
  rw [if_neg hs] at h
  by_cases h13 : kind = 13
  · rw [if_pos h13] at h
    simp only [Prod.mk.injEq] at h
    obtain ⟨e1, _, e3⟩ := h
    have e : addA kind N B B (againK kind B) = varBytes B.length ++ B := by unfold addA; rw [if_neg h1, if_neg h2, if_neg h3, if_neg h4, if_pos h13]
    rw [e]
    simp only [listA] at e1 e3
    cases hv : varGo bs p n.toNat 10 0 0 with
    | mk s1 v =>
      rw [hv] at e1 e3
      cases s1 with
      | dead a c => cases e1
      | live q1 =>
        simp only at e1 e3
        split at e1
        · rename_i hle
          rw [if_pos hle] at e3
          injection e1 with e1
          obtain ⟨hd, hq, hl⟩ := varGo_10o hv
          have hB : B.length = v := by rw [← e3]; simp; omega
          have hd2 : bs.drop q1 = B ++ bs.drop q := by
            rw [← e3, ← e1, ← List.drop_drop, List.take_append_drop]
          rw [hB]
          refine ⟨drop_take ?_ ?_ hp, by omega⟩
          · rw [hd, hd2, List.append_assoc]
          · simp; omega
        · cases e1
  rw [if_neg h13] at h
  simp only [Prod.mk.injEq] at h
  obtain ⟨e1, _, _⟩ := h
  injection e1 with e1
  have hw : WM.width kind = 0 := by unfold WM.width; rw [if_neg (by omega), if_neg (by omega), if_neg (by omega), if_neg (by omega)]
  have e : addA kind N B B (againK kind B) = [] := by unfold addA; rw [if_neg h1, if_neg h2, if_neg h3, if_neg h4, if_neg h13, hw]; rfl
  rw [e, ← e1]
  exact ⟨by simp, hp⟩

theorem raw_dead {bs : List UInt8} {s : St} {m : Int} {a c : Nat} (e : (rawA bs s m).1 = .dead a c) : (rawA bs s m).2 = [] := by
  cases s with
  | dead a' c' => rfl
  | live p =>
    simp only [rawA] at e ⊢
    by_cases h1 : m ≤ 0
    · rw [if_pos h1] at e; cases e
    · rw [if_neg h1] at e ⊢
      by_cases h2 : m.toNat ≤ bs.length - p
      · rw [if_pos h2] at e; cases e
      · rw [if_neg h2]
theorem text_dead {bs : List UInt8} {s : St} {m : Int} {a c : Nat} (e : (textA bs s m).1 = .dead a c) : (textA bs s m).2 = [] := by
  cases s with
  | dead a' c' => rfl
  | live p =>
    simp only [textA] at e ⊢
    cases hv : varGo bs p m.toNat 10 0 0 with
    | mk s1 v =>
      rw [hv] at e
      cases s1 with
      | dead a1 c1 => rfl
      | live q1 =>
        simp only at e ⊢
        by_cases h2 : v ≤ bs.length - q1
        · rw [if_pos h2] at e; cases e
        · rw [if_neg h2]
theorem list_dead {bs : List UInt8} {s : St} {m : Int} {a c : Nat} (e : (listA bs s m).1 = .dead a c) : (listA bs s m).2 = [] := by
  cases s with
  | dead a' c' => rfl
  | live p =>
    simp only [listA] at e ⊢
    cases hv : varGo bs p m.toNat 10 0 0 with
    | mk s1 v =>
      rw [hv] at e
      cases s1 with
      | dead a1 c1 => rfl
      | live q1 =>
        simp only at e ⊢
        by_cases h2 : v ≤ bs.length - q1
        · rw [if_pos h2] at e; cases e
        · rw [if_neg h2]

/-- What a take answers where it ends stopped is short. -/
theorem dead_short {bs : List UInt8} {s : St} (kind : Int) (most : Nat) (n : Int) {a c N : Nat} {B : List UInt8} (h : takeA bs s kind most n = (.dead a c, N, B)) : B.length ≤ 32 := by
  unfold takeA at h
  repeat' (split at h)
  all_goals
    simp only [Prod.mk.injEq] at h
    obtain ⟨e1, _, e3⟩ := h
    subst e3
    first
      | (simp; done)
      | (rw [text_dead e1]; simp)
      | (rw [raw_dead e1]; simp)
      | (rw [list_dead e1]; simp)
      | (have h0 : (rawA bs s 32).2 = [] := raw_dead (show (rawA bs s 32).1 = .dead a c from e1)
         show (WM.keyOf (rawA bs s 32).2).length ≤ 32
         rw [h0]; decide)

end Go.Proofs.Ytpfkcejndjnbhaa.ON
