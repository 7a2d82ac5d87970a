/- The index's hash; a new array; a new table. -/
import Derived.Test.YtknbehjhaaidoaaTbD
namespace Go.Proofs.Ytknbehjhaaidoaa.TB
open Go.RowKit Mem HD
set_option linter.unusedVariables false
set_option linter.unusedSimpArgs false

/-- The hash of a key, behind i bytes. -/
def hsN (k : Key) : Nat → Nat
  | 0 => 0
  | i + 1 => (hsN k i * 256) % 18446744073709551616 ||| ((k.1[i + 1]?).getD 0).toNat
theorem hsN_lt (k : Key) : ∀ i, hsN k i < 18446744073709551616
  | 0 => (by decide : (0 : Nat) < 18446744073709551616)
  | i + 1 => by
    unfold hsN
    refine Nat.or_lt_two_pow (n := 64) (Nat.mod_lt _ (by decide)) ?_
    have := ((k.1[i + 1]?).getD 0).toNat_lt
    omega
theorem hsN_step (k : Key) (i : Nat) {b : UInt8} (hb : k.1[i + 1]? = some b) : bits .or .u64 (IntKind.u64.wrap ((hsN k i : Int) * 256)) (IntKind.u64.wrap (b.toNat : Int)) = (hsN k (i + 1) : Int) := by
  have h1 := b.toNat_lt
  have e1 : IntKind.u64.wrap ((hsN k i : Int) * 256) = (((hsN k i * 256) % 18446744073709551616 : Nat) : Int) := by
    rw [IntKind.wrap_u64]
    omega
  have e2 : IntKind.u64.wrap (b.toNat : Int) = (b.toNat : Int) := IntWalk.u64_in _ (by omega)
  rw [e1, e2, bits_or_u64_nat _ _ (Nat.mod_lt _ (by decide)) (by omega)]
  conv => rhs; unfold hsN
  rw [hb]
  rfl
/-- The hash. -/
def hash (k : Key) : Nat := hsN k 8
theorem hash_lt (k : Key) : hash k < 18446744073709551616 := hsN_lt k 8
def HI (w : World) (k : Key) (v3 v8 : Value) (wr : World) : Prop := ∃ i : Nat, i ≤ 8 ∧ v3 = .int .u64 (hsN k i : Int) ∧ v8 = .int .i64 (i : Int) ∧ wr = w
set_option maxRecDepth 100000 in
set_option maxHeartbeats 4000000 in
theorem hash_any (k : Key) (w : World) : Calls Try.prog 51 #[.agg k.L.toArray] w fun e w' => e = .returned (.int .u64 (hash k : Int)) ∧ Mod no w w' := by
  have hb := Blk.new w 39 k.L.toArray
  have hm : Mod no w (w.alloc (.cells k.L.toArray 39)) := (Mod.refl no w).alloc _
  have HB := Lib.hid (And.intro hb hm)
  clear hb hm
  go_enter Try.func51, Try.ntmps51
  go_upto_region 2 with fail
  obtain ⟨w1, hw1⟩ : ∃ w1, w1 = w.alloc (.cells k.L.toArray 39) := ⟨_, rfl⟩
  rw [← hw1]
  rw [← hw1] at HB
  clear hw1
  obtain ⟨g, hg⟩ : ∃ g, g = w.heap.size := ⟨_, rfl⟩
  rw [← hg]
  rw [← hg] at HB
  clear hg
  go_wp2_with fail
  go_loopw [3, 8] (HI w1 k) (fun _ v _ => 8 - (intOf v).toNat)
  case atStart => exact ⟨0, by omega, rfl, rfl, rfl⟩
  case round =>
    obtain ⟨i, hi, rfl, rfl, rfl⟩ := hrel
    by_cases hlt : i < 8
    · have g1 : (i : Int) < 8 := by omega
      have g2 : ¬ (i : Int) < 0 := by omega
      obtain ⟨b, hb⟩ : ∃ b : UInt8, k.1[i + 1]? = some b := ⟨_, List.getElem?_eq_getElem (by rw [k.2]; omega)⟩
      have c0 : wr.cell? ⟨g, 1 + i, none⟩ = some (.int .u8 (b.toNat : Int)) := by
        rw [HB.out.1.cell, List.getElem?_toArray]
        unfold Key.L kOf
        rw [List.getElem?_map, Nat.add_comm, hb]
        rfl
      have HX := Lib.hid (And.intro hb (hsN_step k i hb))
      have HL := Lib.hid hlt
      obtain ⟨x, hx⟩ : ∃ x : Int, x = (hsN k i : Int) := ⟨_, rfl⟩
      rw [← hx] at HX ⊢
      clear hb hx hlt hi
      go_wp2_with fail
      exact ⟨⟨i + 1, HL.out, by rw [HX.out.2], by go_num, rfl⟩, by have := HL.out; show 8 - ((i : Int) + 1).toNat < 8 - ((i : Int)).toNat; omega⟩
    · obtain rfl : i = 8 := by omega
      have g1 : ¬ ((8 : Nat) : Int) < 8 := by omega
      clear hi hlt
      obtain ⟨x, hx⟩ : ∃ x : Int, x = (hsN k 8 : Int) := ⟨_, rfl⟩
      have HX := Lib.hid hx
      rw [← hx]
      clear hx
      go_wp2_with fail
      go_ret
      exact ⟨by rw [HX.out]; rfl, HB.out.2⟩

/-! ### A new array -/
theorem info_parts {t : TypeId} {z : Value} {sz by_ : Nat} (h : (Try.prog.info? t).map (fun i => (i.zero, i.size, i.bytes)) = some (some z, sz, by_)) : ∃ i0, Try.prog.info? t = some i0 ∧ i0.zero = some z ∧ i0.size = sz ∧ i0.bytes = by_ := by
  cases hi : Try.prog.info? t with
  | none => rw [hi] at h; cases h
  | some i0 =>
    rw [hi] at h
    injection h with h
    injection h with h1 h2
    injection h2 with h2 h3
    exact ⟨i0, rfl, h1, h2, h3⟩
theorem made_flat (z : List Value) (hz : 0 < z.length) (n : Nat) : madeCells z.toArray (n * z.length) = (List.replicate n z).flatten.toArray := by
  apply Array.ext_getElem?
  intro j
  have hl : ∀ y ∈ List.replicate n z, y.length = z.length := fun y hy => by rw [List.eq_of_mem_replicate hy]
  by_cases hj : j < n * z.length
  · have h1 : j / z.length < n := (Nat.div_lt_iff_lt_mul hz).2 hj
    have h2 : j % z.length < z.length := Nat.mod_lt _ hz
    have h3 : z[j % z.length]? = some z[j % z.length] := List.getElem?_eq_getElem h2
    have h4 := flat_get (List.replicate n z) (j / z.length) z hl (by rw [List.getElem?_replicate, if_pos h1]) (j % z.length) _ h3
    rw [show j / z.length * z.length + j % z.length = j by rw [Nat.mul_comm]; exact Nat.div_add_mod j z.length] at h4
    have e : (List.replicate n z).flatten.toArray[j]? = some z[j % z.length] := by
      simpa using h4
    rw [e]
    unfold madeCells
    rw [Array.getElem?_map, Array.getElem?_range, if_pos hj]
    simp [h2]
  · have h5 := flat_len (List.replicate n z) hl
    rw [List.length_replicate] at h5
    rw [Array.getElem?_eq_none (by rw [size_madeCells]; omega), Array.getElem?_eq_none (by simp only [List.size_toArray]; omega)]
theorem slot_zero : (Try.prog.info? 133).map (fun i => (i.zero, i.size, i.bytes)) = some (some (.agg (slotL .empty).toArray), 37, 72) := by kernel_rfl
theorem made_slots (n : Nat) : madeCells (Value.agg (slotL .empty).toArray).cells (n * 37) = (rowL (List.replicate n .empty)).flatten.toArray := by
  have h := made_flat (slotL .empty) (by rw [slotL_len]; decide) n
  rw [slotL_len] at h
  unfold rowL
  rw [List.map_replicate, ← h]
  rfl
theorem own_blk {w : World} {base g n : Nat} {e : TypeId} {xs : List Value} (hx : xs.length = n * 37) (h : w.ownsRow base e 37 (.slice (some ⟨g, 0, none⟩) n n) n xs) : Blk w g e xs.toArray := by
  rcases h.2 with ⟨hv, _⟩ | ⟨g', cap, cur, hv, _, hb, _, _, hcs, h4⟩
  · cases hv
  · injection hv with hv h5 h6
    injection hv with hv
    injection hv with hv
    subst hv h6
    have hb : Blk w g e cur := hb
    have : cur = xs.toArray := by
      apply Array.ext'
      rw [← h4, List.take_of_length_le (by simp; omega)]
    rw [← this]; exact hb
set_option maxRecDepth 100000 in
set_option maxHeartbeats 4000000 in
theorem newArray_any (n : Nat) (hn : n ≤ 1099511627776) (w : World) : Calls Try.prog 83 #[.int .i64 (n : Int)] w fun e w' => ∃ ga gs, e = .returned (.pointer (some ⟨ga, 0, none⟩)) ∧ ArrAt w' ga gs (List.replicate n .empty) 0 0 ∧ w.heap.size ≤ ga ∧ w.heap.size ≤ gs ∧ Mod no w w' := by
  obtain ⟨i0, hi, hz0, hz1, hz2⟩ := info_parts slot_zero
  have HI0 := Lib.hid (And.intro hi (And.intro hz0 (And.intro hz1 (And.intro hz2 hn))))
  clear hi hz0 hz1 hz2 hn
  go_enter Try.func83, Try.ntmps83
  go_wp2_with (first
    | (at_make
       refine wpList_make_full _ rfl (.tmp 3) (.tmp 3) 134 rfl 0 133 i0 (.agg (slotL .empty).toArray) 37 Try.underlying134 HI0.out.1 HI0.out.2.1 HI0.out.2.2.1 .i64 .i64 (n : Int) (n : Int) n rfl rfl rfl rfl ?_ (by have := HI0.out.2.2.2.2; show n ≤ 9223372036854775807; omega) (Nat.zero_le _) ?_
       · rw [HI0.out.2.2.2.1]; have := HI0.out.2.2.2.2; omega
       intro w1 hown hg1
       have hb1 := own_blk (by rw [Array.length_toList, size_madeCells]) hown
       rw [made_slots] at hb1
       have H1 := Lib.hid (And.intro hb1 (Mod.of_grown (S := no) hg1 (fun _ _ e => by cases e)))
       clear hown hg1 hb1))
  have hs := H1.out.2.size
  have ha : ArrAt (w1.alloc (.cells #[.slice (some ⟨w.heap.size, 0, none⟩) n n, .int .i64 0, .int .i64 0] 136)) w1.heap.size w.heap.size (List.replicate n .empty) 0 0 := ⟨by rw [List.length_replicate]; exact Blk.new w1 _ _, H1.out.1.alloc _⟩
  have hm := H1.out.2.alloc (.cells #[.slice (some ⟨w.heap.size, 0, none⟩) n n, .int .i64 0, .int .i64 0] 136)
  go_ret
  exact ⟨w1.heap.size, rfl, w.heap.size, ha, hs, Nat.le_refl _, hm⟩
end Go.Proofs.Ytknbehjhaaidoaa.TB
