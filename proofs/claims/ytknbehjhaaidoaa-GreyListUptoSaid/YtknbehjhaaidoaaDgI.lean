/- The row with two ends, of work list's entries: what the law's works needs. -/
import Derived.Test.YtknbehjhaaidoaaDqP
import Derived.Deep.RegionHeld3
namespace Go.Proofs.Ytknbehjhaaidoaa.DG
open Go.RowKit Mem DQ
set_option linter.unusedVariables false
set_option linter.unusedSimpArgs false

/-! ### Elements of 33 cells -/
def Ele (x : List Value) : Prop := x.length = 33 ∧ ∀ v ∈ x, v.oneCell' = true

theorem flat_get : ∀ (C : List (List Value)) (p : Nat) (x : List Value), (∀ y ∈ C, y.length = 33) → C[p]? = some x → ∀ (k : Nat) (v : Value), x[k]? = some v → C.flatten[p * 33 + k]? = some v
  | [], p, x, _, h, _, _, _ => by simp at h
  | y :: C, 0, x, hl, h, k, v, hv => by
    simp at h
    subst h
    have hk := (List.getElem?_eq_some_iff.1 hv).1
    rw [List.flatten_cons, Nat.zero_mul, Nat.zero_add, List.getElem?_append_left hk]
    exact hv
  | y :: C, p + 1, x, hl, h, k, v, hv => by
    have hy := hl y (by simp)
    rw [List.flatten_cons, List.getElem?_append_right (by rw [hy]; omega), hy, show (p + 1) * 33 + k - 33 = p * 33 + k by omega]
    exact flat_get C p x (fun z hz => hl z (by simp [hz])) (by simpa using h) k v hv
theorem flat_len : ∀ (C : List (List Value)), (∀ y ∈ C, y.length = 33) → C.flatten.length = C.length * 33
  | [], _ => rfl
  | y :: C, hl => by
    rw [List.flatten_cons, List.length_append, hl y (by simp), flat_len C (fun z hz => hl z (by simp [hz])), List.length_cons]
    omega
theorem flat_set : ∀ (C : List (List Value)) (p : Nat) (x : List Value), (∀ y ∈ C, y.length = 33) → p < C.length → (C.set p x).flatten = C.flatten.take (p * 33) ++ x ++ C.flatten.drop (p * 33 + 33)
  | [], p, x, _, h => by simp at h
  | y :: C, 0, x, hl, h => by
    have hy := hl y (by simp)
    simp only [List.set_cons_zero, List.flatten_cons, Nat.zero_mul, List.take_zero, List.nil_append, Nat.zero_add]
    rw [← hy, List.drop_left]
  | y :: C, p + 1, x, hl, h => by
    have hy := hl y (by simp)
    have ih := flat_set C p x (fun z hz => hl z (by simp [hz])) (by simpa using h)
    simp only [List.set_cons_succ, List.flatten_cons]
    rw [ih, show (p + 1) * 33 = y.length + p * 33 by omega, List.take_length_add_append, show y.length + p * 33 + 33 = y.length + (p * 33 + 33) by omega, List.drop_length_add_append]
    simp

theorem blk_sets {t : TypeId} (b : Nat) : ∀ (vs : List Value) (o : Nat) (Z : List Value) (w : World), Blk w b t Z.toArray → o + vs.length ≤ Z.length → Blk (w.setCells b o vs) b t (Z.take o ++ vs ++ Z.drop (o + vs.length)).toArray
  | [], o, Z, w, h, hz => by
    simp only [List.append_nil, List.length_nil, Nat.add_zero, List.take_append_drop]
    exact h
  | v :: vs, o, Z, w, h, hz => by
    have h1 := h.put o v
    rw [List.setIfInBounds_toArray] at h1
    have ih := blk_sets b vs (o + 1) (Z.set o v) (w.setCell ⟨b, o, none⟩ v) h1 (by simp at hz ⊢; omega)
    have ho : o < Z.length := by simp at hz; omega
    have e : (Z.set o v).take (o + 1) ++ vs ++ (Z.set o v).drop (o + 1 + vs.length) = Z.take o ++ (v :: vs) ++ Z.drop (o + (v :: vs).length) := by
      rw [List.take_add_one, List.take_set_of_le (by omega), List.getElem?_set_self ho, List.drop_set_of_lt (by omega)]
      simp [Nat.add_assoc, Nat.add_comm 1]
    rw [e] at ih
    exact ih

/-- A Deque of entries at block g, its ring at gr. -/
structure DgAt (w : World) (g gr : Nat) (C : List (List Value)) (f : Nat) (L : List (List Value)) : Prop where
  d : Blk w g 121 #[.bool true, .slice (some ⟨gr, 0, none⟩) C.length C.length, .int .i64 (f : Int), .int .i64 (L.length : Int)]
  r : Blk w gr 89 C.flatten.toArray
  e : ∀ x ∈ C, Ele x
  h : Holds C f L
  b : C.length ≤ 4000000
section
variable {S : Nat → Prop} {w w' : World} {g gr f p : Nat} {C L : List (List Value)} {x : List Value}
theorem DgAt.mod (h : DgAt w g gr C f L) (hm : Mod S w w') (h1 : ¬ S g) (h2 : ¬ S gr) : DgAt w' g gr C f L := ⟨h.d.mod hm h1, h.r.mod hm h2, h.e, h.h, h.b⟩
theorem DgAt.ne (h : DgAt w g gr C f L) : g ≠ gr := fun e => by
  have h1 := h.d
  rw [e] at h1
  exact absurd (h1.same h.r).1 (by decide)
theorem DgAt.len (h : DgAt w g gr C f L) : ∀ y ∈ C, y.length = 33 := fun y hy => (h.e y hy).1
theorem DgAt.range (h : DgAt w g gr C f L) (hx : C[p]? = some x) : w.rangeAt gr (p * 33) x := fun j v hv => by
  rw [h.r.cell, List.getElem?_toArray]
  exact flat_get C p x h.len hx j v hv
theorem DgAt.there (h : DgAt w g gr C f L) (hp : p < C.length) : w.there gr (p * 33) 33 := fun j hj => by
  refine ⟨?_, h.r.free _⟩
  rw [h.r.cell, List.getElem?_toArray, List.getElem?_eq_getElem (by rw [flat_len C h.len]; omega)]
  rfl
/-- The ring's block behind a store of an element. -/
theorem DgAt.put (h : DgAt w g gr C f L) (hp : p < C.length) (hx : Ele x) : Blk (w.setCells gr (p * 33) x) gr 89 (C.set p x).flatten.toArray := by
  have h1 := blk_sets gr x (p * 33) C.flatten w h.r (by rw [flat_len C h.len, hx.1]; omega)
  rw [hx.1] at h1
  rw [flat_set C p x h.len hp]
  exact h1
theorem ele_set (h : ∀ y ∈ C, Ele y) (hx : Ele x) : ∀ y ∈ C.set p x, Ele y := fun y hy => by
  rcases List.mem_or_eq_of_mem_set hy with h' | rfl
  · exact h y h'
  · exact hx
end
theorem mod_setCells {S : Nat → Prop} {w : World} {b : Nat} (hS : S b) : ∀ (vs : List Value) (o : Nat) (w' : World), Mod S w w' → Mod S w (w'.setCells b o vs)
  | [], _, _, h => h
  | v :: vs, o, w', h => mod_setCells hS vs (o + 1) _ (h.set (p := ⟨b, o, none⟩) (fun _ => hS) v)

end Go.Proofs.Ytknbehjhaaidoaa.DG
