/- An index: sixteen tables. Its memory; there, Shard, of, Get. -/
import Derived.Test.YtknbehjhaaidoaaTbS
namespace Go.Proofs.Ytknbehjhaaidoaa.IX
open Go.RowKit Mem HD TB
set_option linter.unusedVariables false
set_option linter.unusedSimpArgs false

/-- In which table a key's entry lies. -/
def shard (k : Key) : Nat := (k.1[0]'(by rw [k.2]; decide)).toNat % 16
theorem shard_lt (k : Key) : shard k < 16 := Nat.mod_lt _ (by decide)
/-- The sixteen pointers. -/
def ptrs (P : Nat → Nat) : Array Value := ((List.range 16).map fun i => Value.pointer (some ⟨P i, 0, none⟩)).toArray
theorem ptrs_get (P : Nat → Nat) {i : Nat} (h : i < 16) : (ptrs P)[i]? = some (.pointer (some ⟨P i, 0, none⟩)) := by
  unfold ptrs
  rw [List.getElem?_toArray, List.getElem?_map, List.getElem?_range h]
  rfl
/-- An index at block g, its blocks in R. -/
structure IxAt (w : World) (g : Nat) (R : Nat → Prop) (T : Nat → Tab Key Ent) (P : Nat → Nat) (Rs : Nat → Nat → Prop) : Prop where
  b : Blk w g 103 (ptrs P)
  t : ∀ i, i < 16 → TabAt w (P i) (Rs i) (T i)
  wf : ∀ i, i < 16 → WF hash 1 (T i)
  sh : ∀ i, i < 16 → ∀ k v, (k, v) ∈ (T i).L → shard k = i
  ap : ∀ i j, i < 16 → j < 16 → i ≠ j → ∀ x, Rs i x → ¬ Rs j x
  ng : ∀ i, i < 16 → ¬ Rs i g
  sub : ∀ i, i < 16 → ∀ x, Rs i x → R x ∧ x < w.heap.size
  rg : R g
/-- All pairs. -/
def IL (T : Nat → Tab Key Ent) : List (Key × Ent) := (List.range 16).flatMap fun i => (T i).L
theorem mem_IL {T : Nat → Tab Key Ent} {k : Key} {v : Ent} : (k, v) ∈ IL T ↔ ∃ i, i < 16 ∧ (k, v) ∈ (T i).L := by
  unfold IL
  rw [List.mem_flatMap]
  constructor
  · rintro ⟨i, hi, h⟩
    exact ⟨i, List.mem_range.1 hi, h⟩
  · rintro ⟨i, hi, h⟩
    exact ⟨i, List.mem_range.2 hi, h⟩
section
variable {S R R' : Nat → Prop} {w w' : World} {g : Nat} {T : Nat → Tab Key Ent} {P : Nat → Nat} {Rs : Nat → Nat → Prop}
theorem IxAt.mod (h : IxAt w g R T P Rs) (m : Mod S w w') (hs : ∀ x, R x → ¬ S x) : IxAt w' g R T P Rs :=
  ⟨h.b.mod m (hs _ h.rg), fun i hi => (h.t i hi).mod m (fun x hx => hs x (h.sub i hi x hx).1), h.wf, h.sh, h.ap, h.ng, fun i hi x hx => ⟨(h.sub i hi x hx).1, Nat.lt_of_lt_of_le (h.sub i hi x hx).2 m.size⟩, h.rg⟩
theorem IxAt.mono (h : IxAt w g R T P Rs) (hr : ∀ x, R x → R' x) : IxAt w g R' T P Rs := ⟨h.b, h.t, h.wf, h.sh, h.ap, h.ng, fun i hi x hx => ⟨hr _ (h.sub i hi x hx).1, (h.sub i hi x hx).2⟩, hr _ h.rg⟩
theorem IxAt.mem (h : IxAt w g R T P Rs) {k : Key} {v : Ent} : (k, v) ∈ IL T ↔ (k, v) ∈ (T (shard k)).L := by
  rw [mem_IL]
  constructor
  · rintro ⟨i, hi, hm⟩
    rw [h.sh i hi k v hm]
    exact hm
  · exact fun hm => ⟨shard k, shard_lt k, hm⟩
theorem IxAt.found (h : IxAt w g R T P Rs) {k : Key} {r : Option Ent} (hf : TB.Found (T (shard k)).L k r) : TB.Found (IL T) k r := fun v => (hf v).trans h.mem.symm
/-- One table has changed. -/
theorem IxAt.one (h : IxAt w g R T P Rs) {i : Nat} (hi : i < 16) (m : Mod (Rs i) w w') {t' : Tab Key Ent} (hw : WF hash 1 t') (hsh : ∀ k v, (k, v) ∈ t'.L → shard k = i) (ht : TabAt w' (P i) (ext (Rs i) w w') t') :
    IxAt w' g (ext R w w') (fun j => if j = i then t' else T j) P (fun j => if j = i then ext (Rs i) w w' else Rs j) := by
  have hne : ∀ j, j < 16 → j ≠ i → ∀ x, Rs j x → ¬ Rs i x := fun j hj hji x hx => h.ap j i hj hi hji x hx
  refine ⟨h.b.mod m (h.ng i hi), fun j hj => ?_, fun j hj => ?_, fun j hj k v hm => ?_, fun j l hj hl hjl x hx => ?_, fun j hj hx => ?_, fun j hj x hx => ?_, .inl h.rg⟩
  · by_cases e : j = i
    · subst e; simp only [if_pos]; exact ht
    · simp only [if_neg e]; exact (h.t j hj).mod m (hne j hj e)
  · by_cases e : j = i
    · subst e; simp only [if_pos]; exact hw
    · simp only [if_neg e]; exact h.wf j hj
  · by_cases e : j = i
    · subst e; simp only [if_pos] at hm; exact hsh k v hm
    · simp only [if_neg e] at hm; exact h.sh j hj k v hm
  · by_cases e : j = i
    · by_cases e2 : l = i
      · omega
      · simp only [if_pos e] at hx
        simp only [if_neg e2]
        rcases hx with hx | hx
        · exact fun hc => hne l hl e2 x hc hx
        · exact fun hc => by have := (h.sub l hl x hc).2; omega
    · simp only [if_neg e] at hx
      by_cases e2 : l = i
      · simp only [if_pos e2]
        rintro (hc | hc)
        · exact hne j hj e x hx hc
        · have := (h.sub j hj x hx).2; omega
      · simp only [if_neg e2]
        exact h.ap j l hj hl hjl x hx
  · by_cases e : j = i
    · simp only [if_pos e] at hx
      rcases hx with hx | hx
      · exact h.ng i hi hx
      · have := h.b.lt; omega
    · simp only [if_neg e] at hx
      exact h.ng j hj hx
  · by_cases e : j = i
    · simp only [if_pos e] at hx
      rcases hx with hx | hx
      · exact ⟨.inl (h.sub i hi x hx).1, Nat.lt_of_lt_of_le (h.sub i hi x hx).2 m.size⟩
      · exact ⟨.inr hx, hx.2⟩
    · simp only [if_neg e] at hx
      exact ⟨.inl (h.sub j hj x hx).1, Nat.lt_of_lt_of_le (h.sub j hj x hx).2 m.size⟩
end
set_option maxRecDepth 100000 in
theorem there_any {w : World} {g : Nat} {R : Nat → Prop} {T : Nat → Tab Key Ent} {P : Nat → Nat} {Rs : Nat → Nat → Prop} (h : IxAt w g R T P Rs) : Calls Try.prog 53 #[.pointer (some ⟨g, 0, none⟩)] w fun e w' => e = .returned (.bool true) ∧ w' = w := by
  have c0 : w.cell? ⟨g, 0, none⟩ = some (.pointer (some ⟨P 0, 0, none⟩)) := (h.b.cell 0).trans (ptrs_get P (by decide))
  clear h
  go_enter Try.func53, Try.ntmps53
  go_wp2_with fail
  go_ret
  exact ⟨rfl, rfl⟩
set_option maxRecDepth 100000 in
theorem shard_any (k : Key) (w : World) : Calls Try.prog 66 #[.agg k.L.toArray] w fun e w' => e = .returned (.int .i64 (shard k : Int)) ∧ Mod no w w' := by
  obtain ⟨b, hb⟩ : ∃ b : UInt8, b = (k.1[0]'(by rw [k.2]; decide)) := ⟨_, rfl⟩
  have c0 : (w.alloc (.cells k.L.toArray 39)).cell? ⟨w.heap.size, 0, none⟩ = some (.int .u8 (b.toNat : Int)) := by
    rw [(Blk.new w 39 k.L.toArray).cell, List.getElem?_toArray]
    unfold Key.L kOf
    rw [List.getElem?_map, List.getElem?_eq_getElem (by rw [k.2]; decide), hb]
    rfl
  have hm : Mod no w (w.alloc (.cells k.L.toArray 39)) := (Mod.refl no w).alloc _
  have hs : ((b.toNat : Int)) % 16 = (shard k : Int) := by
    unfold shard
    rw [← hb]
    omega
  have hbl := b.toNat_lt
  have HS := Lib.hid (And.intro hs (And.intro hm hbl))
  clear hb hs hm
  go_enter Try.func66, Try.ntmps66
  go_wp2_with fail
  go_ret
  exact ⟨by rw [← HS.out.1]; rfl, HS.out.2.1⟩
end Go.Proofs.Ytknbehjhaaidoaa.IX
