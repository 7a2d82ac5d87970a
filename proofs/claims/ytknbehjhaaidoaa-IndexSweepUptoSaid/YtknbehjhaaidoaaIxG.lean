/- Keys in their order; bytes.Compare of two keys; a table's All. -/
import Derived.Test.YtknbehjhaaidoaaIxF
import Derived.Lib.Bytealg
import Derived.Lib.BytesEntry
import Derived.Laws.Externs
namespace Go.Proofs.Ytknbehjhaaidoaa.IX
open Go.RowKit Go.Shelf Mem HD TB
set_option linter.unusedVariables false
set_option linter.unusedSimpArgs false
theorem cmpB_zero : ∀ a b : List UInt8, Lib.compareBytes a b = 0 ↔ a = b
  | [], [] => by simp [Lib.compareBytes]
  | [], _ :: _ => by simp [Lib.compareBytes]
  | _ :: _, [] => by simp [Lib.compareBytes]
  | x :: a, y :: b => by
    have ih := cmpB_zero a b
    unfold Lib.compareBytes
    by_cases h : x < y
    · rw [if_pos h]
      constructor
      · intro c; omega
      · intro c; injection c with c _; exact absurd (c ▸ h) (UInt8.lt_irrefl _)
    · rw [if_neg h]
      by_cases h2 : y < x
      · rw [if_pos h2]
        constructor
        · intro c; omega
        · intro c; injection c with c _; exact absurd (c ▸ h2) (UInt8.lt_irrefl _)
      · rw [if_neg h2, ih]
        have e : x = y := UInt8.le_antisymm (UInt8.not_lt.1 h2) (UInt8.not_lt.1 h)
        rw [e]; simp
theorem cmpB_swap : ∀ a b : List UInt8, Lib.compareBytes b a = - Lib.compareBytes a b
  | [], [] => by simp [Lib.compareBytes]
  | [], _ :: _ => by simp [Lib.compareBytes]
  | _ :: _, [] => by simp [Lib.compareBytes]
  | x :: a, y :: b => by
    have ih := cmpB_swap a b
    unfold Lib.compareBytes
    by_cases h : x < y
    · have h2 : ¬ y < x := fun c => UInt8.lt_irrefl _ (UInt8.lt_trans h c)
      rw [if_pos h, if_neg h2, if_pos h]; rfl
    · by_cases h2 : y < x
      · rw [if_pos h2, if_neg h, if_pos h2]
      · rw [if_neg h2, if_neg h, if_neg h, if_neg h2, ih]
theorem cmpB_trans : ∀ a b c : List UInt8, Lib.compareBytes a b < 0 → Lib.compareBytes b c < 0 → Lib.compareBytes a c < 0
  | [], [], c, h, _ => by simp [Lib.compareBytes] at h
  | [], _ :: _, [], _, h => by simp [Lib.compareBytes] at h
  | [], _ :: _, _ :: _, _, _ => by simp [Lib.compareBytes]
  | _ :: _, [], c, h, _ => by simp [Lib.compareBytes] at h
  | _ :: _, _ :: _, [], _, h => by simp [Lib.compareBytes] at h
  | x :: a, y :: b, z :: c, h, h' => by
    have ih := cmpB_trans a b c
    unfold Lib.compareBytes at h h' ⊢
    by_cases xz : x < z
    · rw [if_pos xz]; decide
    · rw [if_neg xz]
      by_cases xy : x < y
      · by_cases yz : y < z
        · exact absurd (UInt8.lt_trans xy yz) xz
        · rw [if_neg yz] at h'
          by_cases zy : z < y
          · rw [if_pos zy] at h'; omega
          · have e : y = z := UInt8.le_antisymm (UInt8.not_lt.1 zy) (UInt8.not_lt.1 yz)
            exact absurd (e ▸ xy) xz
      · rw [if_neg xy] at h
        by_cases yx : y < x
        · rw [if_pos yx] at h; omega
        · rw [if_neg yx] at h
          have e : x = y := UInt8.le_antisymm (UInt8.not_lt.1 yx) (UInt8.not_lt.1 xy)
          subst e
          by_cases zx : z < x
          · rw [if_neg xz, if_pos zx] at h'; omega
          · rw [if_neg xz, if_neg zx] at h'
            rw [if_neg zx]
            exact ih h h'
/-- A key is ahead of another one. -/
def klt (a b : Key) : Prop := Lib.compareBytes a.1 b.1 < 0
instance (a b : Key) : Decidable (klt a b) := inferInstanceAs (Decidable (Lib.compareBytes a.1 b.1 < 0))
theorem klt_trans {a b c : Key} (h : klt a b) (h' : klt b c) : klt a c := cmpB_trans _ _ _ h h'
theorem klt_irrefl (a : Key) : ¬ klt a a := fun h => by
  have := (cmpB_zero a.1 a.1).2 rfl
  unfold klt at h; omega
theorem klt_asymm {a b : Key} (h : klt a b) : ¬ klt b a := fun h' => klt_irrefl _ (klt_trans h h')
theorem klt_tri (a b : Key) : klt a b ∨ a = b ∨ klt b a := by
  have h := cmpB_swap a.1 b.1
  have z := cmpB_zero a.1 b.1
  unfold klt
  by_cases c : Lib.compareBytes a.1 b.1 = 0
  · exact .inr (.inl (Subtype.ext (z.1 c)))
  · omega
theorem klt_gt (a b : Key) : Lib.compareBytes a.1 b.1 > 0 ↔ klt b a := by
  have h := cmpB_swap a.1 b.1
  unfold klt
  omega
theorem loadKey {w : World} {b off : Nat} {k : Key} (h : w.rangeAt b off k.L) (n c : Nat) (hn : n = 32) : (Extern.Bytes.bytesOf (.slice (some ⟨b, off, none⟩) n c)).run Try.prog w = .ok ⟨k.1.toArray⟩ w := by
  subst hn
  have hx : Lib.bytesOf (k.1.map fun b => (b.toNat : Int)) = k.1 := by
    unfold Lib.bytesOf
    rw [List.map_map]
    conv => rhs; rw [← List.map_id k.1]
    exact List.map_congr_left fun b _ => by simp
  have hl := Lib.run_loadBytesX (P := Try.prog) w (k.1.map fun b => (b.toNat : Int)) ⟨b, off, none⟩ .empty (fun j x hj => by
    rw [add_plain]
    rw [List.getElem?_map] at hj
    cases hk : k.1[j]? with
    | none => rw [hk] at hj; cases hj
    | some y =>
      rw [hk] at hj
      injection hj with hj
      subst hj
      refine h j _ ?_
      unfold Key.L kOf
      rw [List.getElem?_map, hk]
      rfl)
  rw [hx, List.length_map, k.2] at hl
  show (Extern.Bytes.loadBytes _ _ _).run Try.prog w = _
  rw [hl]
  simp
theorem run_compareKeys {w : World} {b o c b' o' c' : Nat} {k k' : Key} (h : w.rangeAt b o k.L) (h' : w.rangeAt b' o' k'.L) :
    (Extern.BytealgCompare.compare #[.slice (some ⟨b, o, none⟩) 32 c, .slice (some ⟨b', o', none⟩) 32 c']).run Try.prog w = .ok (.int .i64 (Lib.compareBytes k.1 k'.1)) w := by
  change Sem.run Try.prog (do pure (goInt (Extern.BytealgCompare.cmp (← Extern.Bytes.bytesOf (.slice (some ⟨b, o, none⟩) 32 c)) (← Extern.Bytes.bytesOf (.slice (some ⟨b', o', none⟩) 32 c'))))) w = _
  simp only [Sem.run_bind, Sem.run_pure, Result.andThen, loadKey h 32 c rfl, loadKey h' 32 c' rfl]
  rw [Lib.cmp_eq]
  rfl
set_option maxRecDepth 100000 in
theorem compare_any {w : World} {b o c b' o' c' : Nat} {k k' : Key} (h : w.rangeAt b o k.L) (h' : w.rangeAt b' o' k'.L) :
    Calls Try.prog 58 #[.slice (some ⟨b, o, none⟩) 32 c, .slice (some ⟨b', o', none⟩) 32 c'] w fun e w' => e = .returned (.int .i64 (Lib.compareBytes k.1 k'.1)) ∧ w' = w := by
  have HR := Lib.hid (And.intro h h')
  clear h h'
  go_enter Try.func58, Try.ntmps58
  go_wp2_with fail
  rw [run_callFunc_extern Try.func93 (by kernel_rfl) (by kernel_rfl) (by kernel_rfl) (e := Extern.BytealgCompare.compare) (by kernel_rfl), run_compareKeys HR.out.1 HR.out.2]
  simp only [Result.andThen]
  rw [Oper.upon_value]
  go_wp2_with fail
  go_ret
  exact ⟨rfl, rfl⟩
set_option maxRecDepth 100000 in
theorem all_in (n : Nat) (g : Nat) (w : World) : CallsIn Fence.wide n Try.prog 57 #[.pointer (some ⟨g, 0, none⟩)] w fun e w' => e = .returned (.func (.func 92) #[] #[.pointer (some ⟨w.heap.size, 0, none⟩)]) ∧ w' = w.alloc (.cells #[.pointer (some ⟨g, 0, none⟩)] 100) := by
  refine callsIn_of_wp Try.func57 rfl trivial ?_ rfl
  simp only [Try.ntmps57, List.size_toArray, List.length_cons, List.length_nil, Nat.reduceAdd, Nat.reduceSub, Array.replicate_succ, Array.replicate_zero, List.push_toArray, List.append_toArray, List.nil_append, List.cons_append]
  gi_wp2_with fail
  go_ret
  exact ⟨rfl, rfl⟩
end Go.Proofs.Ytknbehjhaaidoaa.IX
