/- IndexExact: the texts RiH of this seat, one behind the other. -/
import Derived.Test.YtknbehjhaaidoaaM23
/- The document's index: Sizes. -/
namespace Go.Proofs.Ytknbehjhaaidoaa.IX
open Go.RowKit Go.Shelf Mem HD TB
set_option linter.unusedVariables false
set_option linter.unusedSimpArgs false
/-- How many keys lie in a table. -/
def cntS (l : List (Key × Ent)) (s : Nat) : Nat := (l.filter fun x => shard x.1 == s).length
theorem cntS_le (l : List (Key × Ent)) (s : Nat) : cntS l s ≤ l.length := List.length_filter_le _ _
theorem cntS_snoc (l : List (Key × Ent)) (x : Key × Ent) (s : Nat) : cntS (l ++ [x]) s = if s = shard x.1 then cntS l s + 1 else cntS l s := by
  unfold cntS
  rw [List.filter_append, List.length_append]
  by_cases h : s = shard x.1
  · subst h; simp
  · have h2 : ¬ shard x.1 = s := fun c => h c.symm
    simp [h, h2]
theorem szL_bump (f f' : Nat → Nat) {i : Nat} (hi : i < 16) (hf : ∀ s, f' s = if s = i then f s + 1 else f s) : (szL f 16).toArray.setIfInBounds i (.int .i64 ((f i : Int) + 1)) = (szL f' 16).toArray := by
  rw [List.setIfInBounds_toArray]
  congr 1
  apply List.ext_getElem?
  intro j
  rw [List.getElem?_set, szL_len, szL_get, szL_get, hf j]
  by_cases e : i = j
  · subst e; simp [hi]
  · have e' : ¬ j = i := fun c => e c.symm
    simp [e, e']
section
variable {a : Act} {o : Oper} {w : World}
theorem y_ixk0 {x : Operand} {b off : Nat} (ho : o.op = .indexAddr 39 x (.const (.int .i64 0))) (hx : a.eval x = .pointer (some ⟨b, off, none⟩)) : (execOp a.eval o).run Try.prog w = .ok (.value (.pointer (some ⟨b, off, none⟩))) w := by
  generalize hev : a.eval = ev at hx
  have hz : ev (.const (.int .i64 0)) = .int .i64 0 := by rw [← hev]; rfl
  unfold execOp
  simp only [ho, hx, hz]
  go_simp
theorem y_rem16 {x : Operand} {n : Nat} (hn : n < 256) (ho : o.op = .binOp .rem 5 x (.const (.int .u8 16)) 5) (hx : a.eval x = .int .u8 (n : Int)) : (execOp a.eval o).run Try.prog w = .ok (.value (.int .u8 ((n % 16 : Nat) : Int))) w := by
  generalize hev : a.eval = ev at hx
  have hz : ev (.const (.int .u8 16)) = .int .u8 16 := by rw [← hev]; rfl
  have h2 : ((n : Int).tmod 16) = ((n % 16 : Nat) : Int) := rfl
  unfold execOp
  simp only [ho, hx, hz]
  go_simp
theorem y_ix16 {x y : Operand} {b p : Nat} (ho : o.op = .indexAddr 108 x y) (hx : a.eval x = .pointer (some ⟨b, 0, none⟩)) (hy : a.eval y = .int .u8 (p : Int)) (hp : p < 16) : (execOp a.eval o).run Try.prog w = .ok (.value (.pointer (some ⟨b, p, none⟩))) w := by
  have hp0 : (0 : Int) ≤ (p : Int) := by omega
  have hpi : (p : Int) < (16 : Int) := by omega
  generalize a.eval = ev at hx hy
  unfold execOp
  simp only [ho, hx, hy]
  go_simp
theorem wl_storeI {ops : Array Oper} {Q : Exit → Act → World → Prop} {rest : List Oper} {a' : Act} {x y : Operand} {t : TypeId} {cs : Array Value} (ho : o.op = .store 3 x y) (b p : Nat) (n : Int) (hgd : o.guard = none) (hd : o.dst = none) (ha : a.put none undef = a') (hx : a.eval x = .pointer (some ⟨b, p, none⟩)) (hy : a.eval y = .int .i64 n)
    {v0 : Value} (hb : Blk w b t cs) (hv : cs[p]? = some v0) (h : WL ops Q rest a' (w.setCell ⟨b, p, none⟩ (.int .i64 n))) : WL ops Q (o :: rest) a w := by
  subst ha
  refine ⟨wpList_plain hgd fun K hK => ?_⟩
  have hc : w.cell? ⟨b, p, none⟩ = some v0 := by rw [hb.cell]; exact hv
  have hf := hb.free p
  unfold Oper.wp execOp
  simp only [ho, hx, hy]
  go_simp
  exact hK _ _ h.out
end
theorem shard_byte {w : World} {b o : Nat} {k : Key} (h : w.rangeAt b o k.L) : ∃ n : Nat, n < 256 ∧ n % 16 = shard k ∧ w.cell? ⟨b, o, none⟩ = some (.int .u8 (n : Int)) := by
  refine ⟨(k.1[0]'(by rw [k.2]; decide)).toNat, UInt8.toNat_lt _, rfl, h 0 _ ?_⟩
  unfold Key.L kOf
  rw [List.getElem?_map, List.getElem?_eq_getElem (by rw [k.2]; decide)]
  rfl
set_option maxRecDepth 100000 in
set_option maxHeartbeats 4000000 in
theorem rsizes_any {w : World} {r : Nat} {v : Value} {l : List (Key × Ent)} (h : RAt w r v l) (hl : l.length ≤ 2097152) : Calls Try.prog 65 #[.pointer (some ⟨r, 0, none⟩)] w fun e w' => e = .returned (.agg (szL (cntS l) 16).toArray) ∧ Mod no w w' := by
  have hw := s2_facts w (fun _ => 0)
  have HA := Lib.hid (And.intro (show RAt (S2 w) r v l from ⟨h.1.mod hw.1 (fun c => c), h.2.mod hw.1 (fun _ _ c => c)⟩) (And.intro hw (And.intro hl h.1.lt)))
  clear h hw hl
  go_enter Try.func65, Try.ntmps65
  go_upto_region 2 with fail
  obtain ⟨w2, hw2⟩ : ∃ w2, w2 = S2 w := ⟨_, rfl⟩
  change Code.wp _ _ _ _ (S2 w)
  rw [← hw2] at HA ⊢
  clear hw2
  obtain ⟨h0, hh0⟩ : ∃ h0, h0 = w.heap.size := ⟨_, rfl⟩
  have HH := Lib.hid (Nat.le_of_eq hh0.symm)
  have HH2 := Lib.hid hh0
  rw [← hh0] at HA ⊢
  clear hh0
  obtain ⟨A, c, rfl, hrd⟩ := HA.out.1.2
  have HR := Lib.hid hrd
  clear hrd
  go_wp2_with fail
  go_loopw [4] (fun v w' => ∃ j : Nat, j ≤ l.length ∧ v = .int .i64 (j : Int) ∧ Blk w' (h0 + 1) 108 (szL (cntS (l.take j)) 16).toArray ∧ Mod (one (h0 + 1)) w2 w') (fun v _ => l.length - (intOf v).toNat)
  case atStart => exact ⟨0, Nat.zero_le _, rfl, (by
    have h1 := HA.out.2.1.2.2
    have h2 : szL (fun _ => 0) 0 = szL (cntS (l.take 0)) 16 := by
      unfold szL
      exact List.map_congr_left fun s _ => by simp [cntS]
    rw [← h2]; exact h1), Mod.refl _ _⟩
  case round =>
    obtain ⟨j, hj, rfl, hb, hm⟩ := hrel
    have hrne : r ≠ h0 + 1 := fun c => by have := HA.out.2.2.2; have := HH2.out; omega
    have HJ := Lib.hid (And.intro hb (And.intro hm (HA.out.1.1.mod hm hrne)))
    clear hb hm hrne
    by_cases hlt : j < l.length
    · obtain ⟨x, hx⟩ : ∃ x, l[j]? = some x := ⟨_, List.getElem?_eq_getElem hlt⟩
      obtain ⟨b, o, rfl, hr⟩ := HR.out j x hx
      have d2 : decide ((j : Int) < (l.length : Int)) = true := decide_eq_true (by omega)
      have HM := Lib.hid (show l.length - ((j : Int) + 1).toNat < l.length - ((j : Int)).toNat by omega)
      have HI := Lib.hid (And.intro hlt (And.intro hr hx))
      obtain ⟨n, hn, hs, hc0⟩ := shard_byte (pair_key hr).1
      have hbn : b ≠ h0 + 1 := fun c => by
        have h2 : w2.cell? ⟨b, o + j * 36, none⟩ = some (.int .u8 (n : Int)) := hc0
        rw [c, HA.out.2.1.2.2.cell, List.getElem?_toArray, szL_get] at h2
        by_cases h3 : o + j * 36 < 16
        · rw [if_pos h3] at h2; cases h2
        · rw [if_neg h3] at h2; cases h2
      have hcw : wr.cell? ⟨b, o + j * 36, none⟩ = some (.int .u8 (n : Int)) := by rw [HJ.out.2.1.cell (p := ⟨b, o + j * 36, none⟩) (cell_below hc0) hbn]; exact hc0
      have HS := Lib.hid (And.intro hn (And.intro hs hcw))
      have hsl : n % 16 < 16 := Nat.mod_lt _ (by decide)
      have HSL := Lib.hid hsl
      obtain ⟨sh, hsh⟩ : ∃ sh, sh = n % 16 := ⟨_, rfl⟩
      have HSH := Lib.hid hsh
      rw [← hsh] at HSL HS
      clear hr hj hlt hx hn hs hc0 hbn hcw hsl hsh
      have hcl := cntS_le (l.take j) sh
      have hcl2 : cntS (l.take j) sh ≤ 2097152 := by rw [List.length_take] at hcl; have := HA.out.2.2.1; omega
      obtain ⟨f, hf⟩ : ∃ f, f = cntS (l.take j) := ⟨_, rfl⟩
      have HFE := Lib.hid hf
      rw [← hf] at HJ hcl2
      have HFL := Lib.hid hcl2
      clear hf hcl hcl2
      go_upto_region 3 with fail
      refine HD.wl_begin ?_
      refine HD.wl_takeF (d := some 5) (v := (.int .i64 (j : Int))) (by kernel_rfl) rfl rfl (y_move rfl rfl) ?_
      refine HD.wl_takeF (d := some 6) (v := (.pointer (some ⟨r, 0, none⟩))) (by kernel_rfl) rfl rfl (y_move rfl rfl) ?_
      refine HD.wl_takeF (d := some 7) (v := (.pointer (some ⟨r, 0, none⟩))) (a' := ⟨List.toArray ((.pointer (some ⟨r, 0, none⟩))::undef::(.pointer (some ⟨h0, 0, none⟩))::(.pointer (some ⟨(h0 + 1), 0, none⟩))::(.int .i64 (j : Int))::(.int .i64 (j : Int))::(.pointer (some ⟨r, 0, none⟩))::(.pointer (some ⟨r, 0, none⟩))::u8::u9::u10::u11::u12::u13::u14::u15::u16::u17::u18::u19::u20::u21::u22::u23::u24::u25::u26::u27::undef::[]), []⟩) (by kernel_rfl) rfl (by kernel_rfl) (y_nil rfl rfl) ?_
      refine HD.wl_takeF (d := some 8) (v := (.pointer (some ⟨r, 0, none⟩))) (by kernel_rfl) rfl rfl (y_fri rfl rfl) ?_
      refine HD.wl_takeF (d := some 9) (v := (.slice (some ⟨b, o, none⟩) l.length c)) (by kernel_rfl) rfl rfl (y_ldkv rfl rfl (HJ.out.2.2.cell 0)) ?_
      refine HD.wl_takeF (d := some 10) (v := (.int .i64 (l.length : Int))) (a' := ⟨List.toArray ((.pointer (some ⟨r, 0, none⟩))::undef::(.pointer (some ⟨h0, 0, none⟩))::(.pointer (some ⟨(h0 + 1), 0, none⟩))::(.int .i64 (j : Int))::(.int .i64 (j : Int))::(.pointer (some ⟨r, 0, none⟩))::(.pointer (some ⟨r, 0, none⟩))::(.pointer (some ⟨r, 0, none⟩))::(.slice (some ⟨b, o, none⟩) l.length c)::(.int .i64 (l.length : Int))::u11::u12::u13::u14::u15::u16::u17::u18::u19::u20::u21::u22::u23::u24::u25::u26::u27::undef::[]), []⟩) (by kernel_rfl) rfl (by kernel_rfl) (y_lenkv rfl rfl) ?_
      refine HD.wl_takeF (d := some 11) (v := (.bool true)) (a' := ⟨List.toArray ((.pointer (some ⟨r, 0, none⟩))::undef::(.pointer (some ⟨h0, 0, none⟩))::(.pointer (some ⟨(h0 + 1), 0, none⟩))::(.int .i64 (j : Int))::(.int .i64 (j : Int))::(.pointer (some ⟨r, 0, none⟩))::(.pointer (some ⟨r, 0, none⟩))::(.pointer (some ⟨r, 0, none⟩))::(.slice (some ⟨b, o, none⟩) l.length c)::(.int .i64 (l.length : Int))::(.bool true)::u12::u13::u14::u15::u16::u17::u18::u19::u20::u21::u22::u23::u24::u25::u26::u27::undef::[]), []⟩) (by kernel_rfl) rfl (by kernel_rfl) (y_lssi d2 rfl rfl rfl) ?_
      refine HD.wl_done ?_
      go_upto_region 5 with fail
      refine HD.wl_begin ?_
      refine HD.wl_takeF (d := some 14) (v := (.pointer (some ⟨r, 0, none⟩))) (by kernel_rfl) rfl rfl (y_move rfl rfl) ?_
      refine HD.wl_takeF (d := some 15) (v := (.pointer (some ⟨r, 0, none⟩))) (by kernel_rfl) rfl rfl (y_nil rfl rfl) ?_
      refine HD.wl_takeF (d := some 16) (v := (.pointer (some ⟨r, 0, none⟩))) (a' := ⟨List.toArray ((.pointer (some ⟨r, 0, none⟩))::undef::(.pointer (some ⟨h0, 0, none⟩))::(.pointer (some ⟨(h0 + 1), 0, none⟩))::(.int .i64 (j : Int))::(.int .i64 (j : Int))::(.pointer (some ⟨r, 0, none⟩))::(.pointer (some ⟨r, 0, none⟩))::(.pointer (some ⟨r, 0, none⟩))::(.slice (some ⟨b, o, none⟩) l.length c)::(.int .i64 (l.length : Int))::(.bool true)::u12::u13::(.pointer (some ⟨r, 0, none⟩))::(.pointer (some ⟨r, 0, none⟩))::(.pointer (some ⟨r, 0, none⟩))::u17::u18::u19::u20::u21::u22::u23::u24::u25::u26::u27::undef::[]), []⟩) (by kernel_rfl) rfl (by kernel_rfl) (y_fri rfl rfl) ?_
      refine HD.wl_takeF (d := some 17) (v := (.slice (some ⟨b, o, none⟩) l.length c)) (by kernel_rfl) rfl rfl (y_ldkv rfl rfl (HJ.out.2.2.cell 0)) ?_
      refine HD.wl_takeF (d := some 18) (v := (.int .i64 (j : Int))) (by kernel_rfl) rfl rfl (y_move rfl rfl) ?_
      refine HD.wl_takeF (d := some 19) (v := (.pointer (some ⟨b, o + j * 36, none⟩))) (a' := ⟨List.toArray ((.pointer (some ⟨r, 0, none⟩))::undef::(.pointer (some ⟨h0, 0, none⟩))::(.pointer (some ⟨(h0 + 1), 0, none⟩))::(.int .i64 (j : Int))::(.int .i64 (j : Int))::(.pointer (some ⟨r, 0, none⟩))::(.pointer (some ⟨r, 0, none⟩))::(.pointer (some ⟨r, 0, none⟩))::(.slice (some ⟨b, o, none⟩) l.length c)::(.int .i64 (l.length : Int))::(.bool true)::u12::u13::(.pointer (some ⟨r, 0, none⟩))::(.pointer (some ⟨r, 0, none⟩))::(.pointer (some ⟨r, 0, none⟩))::(.slice (some ⟨b, o, none⟩) l.length c)::(.int .i64 (j : Int))::(.pointer (some ⟨b, o + j * 36, none⟩))::u20::u21::u22::u23::u24::u25::u26::u27::undef::[]), []⟩) (by kernel_rfl) rfl (by kernel_rfl) (y_ixkv rfl rfl rfl HI.out.1) ?_
      refine HD.wl_takeF (d := some 20) (v := (.pointer (some ⟨b, o + j * 36, none⟩))) (by kernel_rfl) rfl rfl (y_fk0 rfl rfl) ?_
      refine HD.wl_takeF (d := some 21) (v := (.pointer (some ⟨b, o + j * 36, none⟩))) (by kernel_rfl) rfl rfl (y_ixk0 rfl rfl) ?_
      refine HD.wl_takeF (d := some 22) (v := (.int .u8 (n : Int))) (a' := ⟨List.toArray ((.pointer (some ⟨r, 0, none⟩))::undef::(.pointer (some ⟨h0, 0, none⟩))::(.pointer (some ⟨(h0 + 1), 0, none⟩))::(.int .i64 (j : Int))::(.int .i64 (j : Int))::(.pointer (some ⟨r, 0, none⟩))::(.pointer (some ⟨r, 0, none⟩))::(.pointer (some ⟨r, 0, none⟩))::(.slice (some ⟨b, o, none⟩) l.length c)::(.int .i64 (l.length : Int))::(.bool true)::u12::u13::(.pointer (some ⟨r, 0, none⟩))::(.pointer (some ⟨r, 0, none⟩))::(.pointer (some ⟨r, 0, none⟩))::(.slice (some ⟨b, o, none⟩) l.length c)::(.int .i64 (j : Int))::(.pointer (some ⟨b, o + j * 36, none⟩))::(.pointer (some ⟨b, o + j * 36, none⟩))::(.pointer (some ⟨b, o + j * 36, none⟩))::(.int .u8 (n : Int))::u23::u24::u25::u26::u27::undef::[]), []⟩) (by kernel_rfl) rfl (by kernel_rfl) (y_one rfl (by decide) rfl HS.out.2.2 rfl) ?_
      refine HD.wl_takeF (d := some 23) (v := (.int .u8 (sh : Int))) (by kernel_rfl) rfl rfl (by rw [HSH.out]; exact y_rem16 HS.out.1 rfl rfl) ?_
      refine HD.wl_takeF (d := some 24) (v := (.pointer (some ⟨(h0 + 1), sh, none⟩))) (by kernel_rfl) rfl rfl (y_ix16 rfl rfl rfl HSL.out) ?_
      refine HD.wl_takeF (d := some 25) (v := (.int .i64 (f sh : Int))) (a' := ⟨List.toArray ((.pointer (some ⟨r, 0, none⟩))::undef::(.pointer (some ⟨h0, 0, none⟩))::(.pointer (some ⟨(h0 + 1), 0, none⟩))::(.int .i64 (j : Int))::(.int .i64 (j : Int))::(.pointer (some ⟨r, 0, none⟩))::(.pointer (some ⟨r, 0, none⟩))::(.pointer (some ⟨r, 0, none⟩))::(.slice (some ⟨b, o, none⟩) l.length c)::(.int .i64 (l.length : Int))::(.bool true)::u12::u13::(.pointer (some ⟨r, 0, none⟩))::(.pointer (some ⟨r, 0, none⟩))::(.pointer (some ⟨r, 0, none⟩))::(.slice (some ⟨b, o, none⟩) l.length c)::(.int .i64 (j : Int))::(.pointer (some ⟨b, o + j * 36, none⟩))::(.pointer (some ⟨b, o + j * 36, none⟩))::(.pointer (some ⟨b, o + j * 36, none⟩))::(.int .u8 (n : Int))::(.int .u8 (sh : Int))::(.pointer (some ⟨(h0 + 1), sh, none⟩))::(.int .i64 (f sh : Int))::u26::u27::undef::[]), []⟩) (by kernel_rfl) rfl (by kernel_rfl) (y_int rfl rfl (by rw [HJ.out.1.cell, List.getElem?_toArray, szL_get, if_pos HSL.out, if_pos HSL.out])) ?_
      refine HD.wl_takeF (d := some 26) (v := (.int .i64 ((f sh : Int) + 1))) (by kernel_rfl) rfl rfl (y_addi (by have := HFL.out; omega) rfl rfl rfl) ?_
      refine HD.wl_takeF (d := some 27) (v := (.pointer (some ⟨(h0 + 1), sh, none⟩))) (a' := ⟨List.toArray ((.pointer (some ⟨r, 0, none⟩))::undef::(.pointer (some ⟨h0, 0, none⟩))::(.pointer (some ⟨(h0 + 1), 0, none⟩))::(.int .i64 (j : Int))::(.int .i64 (j : Int))::(.pointer (some ⟨r, 0, none⟩))::(.pointer (some ⟨r, 0, none⟩))::(.pointer (some ⟨r, 0, none⟩))::(.slice (some ⟨b, o, none⟩) l.length c)::(.int .i64 (l.length : Int))::(.bool true)::u12::u13::(.pointer (some ⟨r, 0, none⟩))::(.pointer (some ⟨r, 0, none⟩))::(.pointer (some ⟨r, 0, none⟩))::(.slice (some ⟨b, o, none⟩) l.length c)::(.int .i64 (j : Int))::(.pointer (some ⟨b, o + j * 36, none⟩))::(.pointer (some ⟨b, o + j * 36, none⟩))::(.pointer (some ⟨b, o + j * 36, none⟩))::(.int .u8 (n : Int))::(.int .u8 (sh : Int))::(.pointer (some ⟨(h0 + 1), sh, none⟩))::(.int .i64 (f sh : Int))::(.int .i64 ((f sh : Int) + 1))::(.pointer (some ⟨(h0 + 1), sh, none⟩))::undef::[]), []⟩) (by kernel_rfl) rfl (by kernel_rfl) (y_ix16 rfl rfl rfl HSL.out) ?_
      refine wl_storeI (a' := ⟨List.toArray ((.pointer (some ⟨r, 0, none⟩))::undef::(.pointer (some ⟨h0, 0, none⟩))::(.pointer (some ⟨(h0 + 1), 0, none⟩))::(.int .i64 (j : Int))::(.int .i64 (j : Int))::(.pointer (some ⟨r, 0, none⟩))::(.pointer (some ⟨r, 0, none⟩))::(.pointer (some ⟨r, 0, none⟩))::(.slice (some ⟨b, o, none⟩) l.length c)::(.int .i64 (l.length : Int))::(.bool true)::u12::u13::(.pointer (some ⟨r, 0, none⟩))::(.pointer (some ⟨r, 0, none⟩))::(.pointer (some ⟨r, 0, none⟩))::(.slice (some ⟨b, o, none⟩) l.length c)::(.int .i64 (j : Int))::(.pointer (some ⟨b, o + j * 36, none⟩))::(.pointer (some ⟨b, o + j * 36, none⟩))::(.pointer (some ⟨b, o + j * 36, none⟩))::(.int .u8 (n : Int))::(.int .u8 (sh : Int))::(.pointer (some ⟨(h0 + 1), sh, none⟩))::(.int .i64 (f sh : Int))::(.int .i64 ((f sh : Int) + 1))::(.pointer (some ⟨(h0 + 1), sh, none⟩))::undef::[]), []⟩) (v0 := .int .i64 (f sh : Int)) rfl (h0 + 1) sh ((f sh : Int) + 1) rfl rfl (by kernel_rfl) rfl rfl HJ.out.1 (by rw [List.getElem?_toArray, szL_get, if_pos HSL.out, if_pos HSL.out]) ?_
      have hf' : ∀ s, cntS (l.take (j + 1)) s = if s = sh then f s + 1 else f s := fun s => by rw [take_at HI.out.2.2, cntS_snoc, HFE.out, HS.out.2.1]
      have H5 := Lib.hid (show Blk (wr.setCell ⟨h0 + 1, sh, none⟩ (.int .i64 ((f sh : Int) + 1))) (h0 + 1) 108 (szL (cntS (l.take (j + 1))) 16).toArray ∧ Mod (one (h0 + 1)) w2 (wr.setCell ⟨h0 + 1, sh, none⟩ (.int .i64 ((f sh : Int) + 1))) from ⟨by rw [← szL_bump f _ HSL.out hf']; exact HJ.out.1.put sh _, Mod.set (S := one (h0 + 1)) (p := ⟨h0 + 1, sh, none⟩) HJ.out.2.1 (fun _ => rfl) _⟩)
      clear hf'
      refine HD.wl_done ?_
      go_upto_region 4 with fail
      refine HD.wl_begin ?_
      refine HD.wl_takeF (d := some 12) (v := (.int .i64 (j : Int))) (by kernel_rfl) rfl rfl (y_move rfl rfl) ?_
      refine HD.wl_takeF (d := some 13) (v := (.int .i64 ((j : Int) + 1))) (by kernel_rfl) rfl rfl (y_addi (by have := HI.out.1; have := HA.out.2.2.1; omega) rfl rfl rfl) ?_
      refine HD.wl_takeF (d := some 4) (v := (.int .i64 ((j : Int) + 1))) (a' := ⟨List.toArray ((.pointer (some ⟨r, 0, none⟩))::undef::(.pointer (some ⟨h0, 0, none⟩))::(.pointer (some ⟨(h0 + 1), 0, none⟩))::(.int .i64 ((j : Int) + 1))::(.int .i64 (j : Int))::(.pointer (some ⟨r, 0, none⟩))::(.pointer (some ⟨r, 0, none⟩))::(.pointer (some ⟨r, 0, none⟩))::(.slice (some ⟨b, o, none⟩) l.length c)::(.int .i64 (l.length : Int))::(.bool true)::(.int .i64 (j : Int))::(.int .i64 ((j : Int) + 1))::(.pointer (some ⟨r, 0, none⟩))::(.pointer (some ⟨r, 0, none⟩))::(.pointer (some ⟨r, 0, none⟩))::(.slice (some ⟨b, o, none⟩) l.length c)::(.int .i64 (j : Int))::(.pointer (some ⟨b, o + j * 36, none⟩))::(.pointer (some ⟨b, o + j * 36, none⟩))::(.pointer (some ⟨b, o + j * 36, none⟩))::(.int .u8 (n : Int))::(.int .u8 (sh : Int))::(.pointer (some ⟨(h0 + 1), sh, none⟩))::(.int .i64 (f sh : Int))::(.int .i64 ((f sh : Int) + 1))::(.pointer (some ⟨(h0 + 1), sh, none⟩))::undef::[]), []⟩) (by kernel_rfl) rfl (by kernel_rfl) (y_assign rfl rfl) ?_
      refine HD.wl_done ?_
      exact ⟨⟨_, _, _, _, _, _, _, _, _, _, _, _, _, _, _, _, _, _, _, _, _, _, _, _, ⟨j + 1, HI.out.1, rfl, H5.out.1, H5.out.2⟩, rfl⟩, HM.out⟩
    · obtain rfl : j = l.length := by omega
      have d2 : decide ((l.length : Int) < (l.length : Int)) = false := decide_eq_false (by omega)
      clear hlt hj
      rw [List.take_length] at HJ
      have HE := Lib.hid (HA.out.2.1.2.1.mod HJ.out.2.1 (fun c => by have c : h0 = h0 + 1 := c; omega))
      go_upto_region 3 with fail
      refine HD.wl_begin ?_
      refine HD.wl_takeF (d := some 5) (v := (.int .i64 (l.length : Int))) (by kernel_rfl) rfl rfl (y_move rfl rfl) ?_
      refine HD.wl_takeF (d := some 6) (v := (.pointer (some ⟨r, 0, none⟩))) (by kernel_rfl) rfl rfl (y_move rfl rfl) ?_
      refine HD.wl_takeF (d := some 7) (v := (.pointer (some ⟨r, 0, none⟩))) (a' := ⟨List.toArray ((.pointer (some ⟨r, 0, none⟩))::undef::(.pointer (some ⟨h0, 0, none⟩))::(.pointer (some ⟨(h0 + 1), 0, none⟩))::(.int .i64 (l.length : Int))::(.int .i64 (l.length : Int))::(.pointer (some ⟨r, 0, none⟩))::(.pointer (some ⟨r, 0, none⟩))::u8::u9::u10::u11::u12::u13::u14::u15::u16::u17::u18::u19::u20::u21::u22::u23::u24::u25::u26::u27::undef::[]), []⟩) (by kernel_rfl) rfl (by kernel_rfl) (y_nil rfl rfl) ?_
      refine HD.wl_takeF (d := some 8) (v := (.pointer (some ⟨r, 0, none⟩))) (by kernel_rfl) rfl rfl (y_fri rfl rfl) ?_
      refine HD.wl_takeF (d := some 9) (v := (.slice A l.length c)) (by kernel_rfl) rfl rfl (y_ldkv rfl rfl (HJ.out.2.2.cell 0)) ?_
      refine HD.wl_takeF (d := some 10) (v := (.int .i64 (l.length : Int))) (a' := ⟨List.toArray ((.pointer (some ⟨r, 0, none⟩))::undef::(.pointer (some ⟨h0, 0, none⟩))::(.pointer (some ⟨(h0 + 1), 0, none⟩))::(.int .i64 (l.length : Int))::(.int .i64 (l.length : Int))::(.pointer (some ⟨r, 0, none⟩))::(.pointer (some ⟨r, 0, none⟩))::(.pointer (some ⟨r, 0, none⟩))::(.slice A l.length c)::(.int .i64 (l.length : Int))::u11::u12::u13::u14::u15::u16::u17::u18::u19::u20::u21::u22::u23::u24::u25::u26::u27::undef::[]), []⟩) (by kernel_rfl) rfl (by kernel_rfl) (y_lenkv rfl rfl) ?_
      refine HD.wl_takeF (d := some 11) (v := (.bool false)) (a' := ⟨List.toArray ((.pointer (some ⟨r, 0, none⟩))::undef::(.pointer (some ⟨h0, 0, none⟩))::(.pointer (some ⟨(h0 + 1), 0, none⟩))::(.int .i64 (l.length : Int))::(.int .i64 (l.length : Int))::(.pointer (some ⟨r, 0, none⟩))::(.pointer (some ⟨r, 0, none⟩))::(.pointer (some ⟨r, 0, none⟩))::(.slice A l.length c)::(.int .i64 (l.length : Int))::(.bool false)::u12::u13::u14::u15::u16::u17::u18::u19::u20::u21::u22::u23::u24::u25::u26::u27::undef::[]), []⟩) (by kernel_rfl) rfl (by kernel_rfl) (y_lssi d2 rfl rfl rfl) ?_
      refine HD.wl_done ?_
      go_wp2_with (first
        | (refine wpList_op rfl (y_mid (cs := szL (cntS l) 16) rfl rfl (blk_range HJ.out.1) Try.underlying108 rfl (int16_sizeG (szL_len (cntS l) 16))) ?_)
        | (refine wpList_store_mid rfl 108 (.tmp 2) (.tmp 28) rfl h0 0 (szL (cntS l) 16).toArray rfl rfl (blk_there HE.out 0 _ (by simp [szL_len])) (by simpa using int16_sizeG (szL_len (cntS l) 16)) (by simpa using szL_ones (cntS l) 16) ?_))
      exact bodyPost_ret (v := .agg (szL (cntS l) 16).toArray) (results_cell_row (p := 2) (ty := 108) rfl _ _ h0 108 (szL (cntS l) 16).toArray (0, 0) _ rfl (by have h1 := blk_sets h0 (szL (cntS l) 16) 0 (szL (fun _ => 0) 0) _ HE.out (by simp [szL_len]); have h1 : Blk _ _ _ _ := h1; rw [show (szL (fun _ => 0) 0).take 0 ++ szL (cntS l) 16 ++ (szL (fun _ => 0) 0).drop (0 + (szL (cntS l) 16).length) = szL (cntS l) 16 from by simp [szL_len, List.drop_of_length_le]] at h1; exact h1) Try.underlying108 rfl (by simpa using int16_sizeG (szL_len (cntS l) 16))) rfl ⟨rfl, mod_setCells (S := no) (fun c => absurd c (by have := HH2.out; omega)) _ _ _ (HA.out.2.1.1.trans HJ.out.2.1 (fun k hk c => by have c : k = h0 + 1 := c; have := HH2.out; omega))⟩
end Go.Proofs.Ytknbehjhaaidoaa.IX

