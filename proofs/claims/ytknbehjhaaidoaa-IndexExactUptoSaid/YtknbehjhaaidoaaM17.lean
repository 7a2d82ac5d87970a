/- IndexExact: the texts IxL of this seat, one behind the other. -/
import Derived.Shelf.SlSortCmp.NoneTotal
import Derived.Test.YtknbehjhaaidoaaM16
/- The sort of pairs: the library's contract for slices.SortFunc, laid at this program (by the kit's lay-plain). -/
namespace Go.Proofs.Ytknbehjhaaidoaa.IX
open Go.RowKit Go.Shelf Go.Lib Go.Sort Mem HD TB
set_option linter.unusedVariables false
set_option linter.unusedSimpArgs false
def srt_ren : Go.Shelf.Ren := ⟨fun | 6 => 60 | 15 => 95 | 14 => 94 | 28 => 111 | 29 => 112 | 20 => 103 | 21 => 104 | 22 => 105 | 23 => 106 | 24 => 107 | 25 => 108 | 26 => 109 | 27 => 110 | 46 => 113 | 47 => 114 | 48 => 115 | 49 => 116 | 50 => 117 | 57 => 118 | n => n, fun | 22 => 77 | 24 => 58 | 25 => 113 | 3 => 3 | 39 => 129 | 0 => 0 | 53 => 54 | 55 => 128 | 4 => 4 | 46 => 149 | 45 => 148 | 50 => 27 | 5 => 5 | 9 => 9 | 66 => 157 | 70 => 161 | 76 => 163 | 77 => 164 | n => n, fun | n => n⟩
theorem srt : Go.Proofs.SlLaysF0.n6 Try.prog srt_ren := {
  mixed := by kernel_rfl
  f6 := ⟨Try.f60.name, by decide, Try.func60.trans (congrArg some (by kernel_rfl))⟩
  f14 := ⟨Try.f94.name, by decide, Try.func94.trans (congrArg some (by kernel_rfl))⟩
  f15 := Try.func95.trans (congrArg some (by kernel_rfl))
  f20 := ⟨Try.f103.name, by decide, Try.func103.trans (congrArg some (by kernel_rfl))⟩
  f21 := ⟨Try.f104.name, by decide, Try.func104.trans (congrArg some (by kernel_rfl))⟩
  f22 := ⟨Try.f105.name, by decide, Try.func105.trans (congrArg some (by kernel_rfl))⟩
  f23 := ⟨Try.f106.name, by decide, Try.func106.trans (congrArg some (by kernel_rfl))⟩
  f24 := ⟨Try.f107.name, by decide, Try.func107.trans (congrArg some (by kernel_rfl))⟩
  f25 := ⟨Try.f108.name, by decide, Try.func108.trans (congrArg some (by kernel_rfl))⟩
  f26 := ⟨Try.f109.name, by decide, Try.func109.trans (congrArg some (by kernel_rfl))⟩
  f27 := ⟨Try.f110.name, by decide, Try.func110.trans (congrArg some (by kernel_rfl))⟩
  f28 := Try.func111.trans (congrArg some (by kernel_rfl))
  f29 := Try.func112.trans (congrArg some (by kernel_rfl))
  f46 := ⟨Try.f113.name, by decide, Try.func113.trans (congrArg some (by kernel_rfl))⟩
  f47 := Try.func114.trans (congrArg some (by kernel_rfl))
  f48 := Try.func115.trans (congrArg some (by kernel_rfl))
  f49 := ⟨Try.f116.name, by decide, Try.func116.trans (congrArg some (by kernel_rfl))⟩
  f50 := ⟨Try.f117.name, by decide, Try.func117.trans (congrArg some (by kernel_rfl))⟩
  f57 := ⟨Try.f118.name, by decide, Try.func118.trans (congrArg some (by kernel_rfl))⟩
  t0 := Try.underlying0
  a0 := Try.isAgg0
  z0 := Try.sizeOf0
  v0 := Try.zeroValue0
  t3 := Try.underlying3
  a3 := Try.isAgg3
  z3 := Try.sizeOf3
  v3 := Try.zeroValue3
  t4 := Try.underlying4
  a4 := Try.isAgg4
  z4 := Try.sizeOf4
  v4 := Try.zeroValue4
  t5 := Try.underlying5
  a5 := Try.isAgg5
  z5 := Try.sizeOf5
  v5 := Try.zeroValue5
  t9 := Try.underlying9
  a9 := Try.isAgg9
  z9 := Try.sizeOf9
  v9 := Try.zeroValue9
  t22 := Try.underlying77
  a22 := Try.isAgg77
  z22 := Try.sizeOf77
  v22 := Try.zeroValue77
  t25 := Try.underlying113
  a25 := Try.isAgg113
  z25 := Try.sizeOf113
  v25 := Try.zeroValue113
  t39 := Try.underlying129
  a39 := Try.isAgg129
  z39 := Try.sizeOf129
  v39 := Try.zeroValue129
  t45 := Try.underlying148
  a45 := Try.isAgg148
  z45 := Try.sizeOf148
  v45 := Try.zeroValue148
  t46 := Try.underlying149
  a46 := Try.isAgg149
  z46 := Try.sizeOf149
  v46 := Try.zeroValue149
  t50 := Try.underlying27
  a50 := Try.isAgg27
  z50 := Try.sizeOf27
  v50 := Try.zeroValue27
  t53 := Try.underlying54
  a53 := Try.isAgg54
  z53 := Try.sizeOf54
  v53 := Try.zeroValue54
  t55 := Try.underlying128
  a55 := Try.isAgg128
  z55 := Try.sizeOf128
  v55 := Try.zeroValue128
  t66 := Try.underlying157
  a66 := Try.isAgg157
  z66 := Try.sizeOf157
  v66 := Try.zeroValue157
  t70 := Try.underlying161
  a70 := Try.isAgg161
  z70 := Try.sizeOf161
  v70 := Try.zeroValue161
  t76 := Try.underlying163
  a76 := Try.isAgg163
  z76 := Try.sizeOf163
  v76 := Try.zeroValue163
  t77 := Try.underlying164
  a77 := Try.isAgg164
  z77 := Try.sizeOf164
  v77 := Try.zeroValue164 }

instance : Inhabited (Key × Ent) := ⟨(k0, e0)⟩
def cfK (x y : Key × Ent) : Int := Lib.compareBytes x.1.1 y.1.1
theorem ltOf_cf (x y : Key × Ent) : ltOf cfK x y = decide (klt x.1 y.1) := rfl
theorem swo_cf : SWO (ltOf cfK) where
  irrefl x := by rw [ltOf_cf]; exact decide_eq_false (klt_irrefl _)
  trans x y z h1 h2 := by
    rw [ltOf_cf] at *
    exact decide_eq_true (klt_trans (of_decide_eq_true h1) (of_decide_eq_true h2))
  ntrans x y z h1 h2 := by
    rw [ltOf_cf] at *
    have h1 := of_decide_eq_false h1
    have h2 := of_decide_eq_false h2
    refine decide_eq_false fun h => ?_
    rcases klt_tri x.1 y.1 with c | c | c
    · exact h1 c
    · exact h2 (c ▸ h)
    · exact h2 (klt_trans c h)
set_option maxRecDepth 100000 in
theorem closure_any (x y : Key × Ent) (W : World) : Calls Try.prog 61 #[.agg (pairL x).toArray, .agg (pairL y).toArray] W fun e w' => e = .returned (.int .i64 (cfK x y)) ∧ ∃ q os', w' = grow (W.drewN q) os' := by
  have h1 : ((W.alloc (.cells (pairL x).toArray 58)).alloc (.cells (pairL y).toArray 58)).rangeAt W.heap.size 0 x.1.L := keyed_key (y := x) ((Blk.new W 58 (pairL x).toArray).alloc _)
  have h2 : ((W.alloc (.cells (pairL x).toArray 58)).alloc (.cells (pairL y).toArray 58)).rangeAt (W.heap.size + 1) 0 y.1.L := keyed_key (y := y) (Blk.new_at (W.alloc (.cells (pairL x).toArray 58)) 58 (pairL y).toArray (by simp))
  have HA := Lib.hid (And.intro h1 h2)
  clear h1 h2
  go_enter Try.func61, Try.ntmps61
  go_upto_region 1 with fail
  obtain ⟨w2, hw2⟩ : ∃ w2, w2 = (W.alloc (.cells (pairL x).toArray 58)).alloc (.cells (pairL y).toArray 58) := ⟨_, rfl⟩
  rw [← hw2] at HA ⊢
  have HW := Lib.hid hw2
  clear hw2
  obtain ⟨h0, hh0⟩ : ∃ h0, h0 = W.heap.size := ⟨_, rfl⟩
  rw [← hh0] at HA ⊢
  clear hh0
  refine wp_region_held_drew (S := fun w9 => w9 = w2.drew) (by kernel_rfl) rfl (fun hHeld => ?_)
  refine takeD (i := 0) (d := some 5) (v := (.pointer (some ⟨h0, 0, none⟩))) rfl (by kernel_rfl) (by kernel_rfl) (by kernel_rfl) rfl (fun _ _ _ h => h) (Or.inl ⟨by kernel_rfl, fun w9 hw => y_fk rfl rfl⟩) hHeld ?_
  simp only [Act.put, List.setIfInBounds_toArray, List.set_cons_zero, List.set_cons_succ]
  refine takeD (i := 1) (d := some 6) (v := (.slice (some ⟨h0, 0, none⟩) 32 32)) rfl (by kernel_rfl) (by kernel_rfl) (by kernel_rfl) rfl (fun _ _ _ h => h) (Or.inl ⟨by kernel_rfl, fun w9 hw => y_slK rfl rfl⟩) hHeld ?_
  simp only [Act.put, List.setIfInBounds_toArray, List.set_cons_zero, List.set_cons_succ]
  refine takeD (i := 2) (d := some 7) (v := (.pointer (some ⟨(h0 + 1), 0, none⟩))) rfl (by kernel_rfl) (by kernel_rfl) (by kernel_rfl) rfl (fun _ _ _ h => h) (Or.inl ⟨by kernel_rfl, fun w9 hw => y_fk rfl rfl⟩) hHeld ?_
  simp only [Act.put, List.setIfInBounds_toArray, List.set_cons_zero, List.set_cons_succ]
  refine takeD (i := 3) (d := some 8) (v := (.slice (some ⟨(h0 + 1), 0, none⟩) 32 32)) rfl (by kernel_rfl) (by kernel_rfl) (by kernel_rfl) rfl (fun _ _ _ h => h) (Or.inl ⟨by kernel_rfl, fun w9 hw => y_slK rfl rfl⟩) hHeld ?_
  simp only [Act.put, List.setIfInBounds_toArray, List.set_cons_zero, List.set_cons_succ]
  refine readyD (i := 4) (d := some 9) rfl (by kernel_rfl) rfl (by kernel_rfl) fun K hK => ?_
  refine op_c2 (fun _ _ => rfl) rfl rfl rfl (compare_any HA.out.1 HA.out.2) ?_
  rintro e w9 ⟨rfl, rfl⟩
  refine ⟨_, rfl, hK _ _ hHeld fun hHeld9 => ?_⟩
  clear hK K hHeld
  have hHeld := hHeld9
  clear hHeld9
  simp only [Act.put, List.setIfInBounds_toArray, List.set_cons_zero, List.set_cons_succ]
  refine takeD (i := 5) (d := some 4) (v := (.int .i64 (Lib.compareBytes x.1.1 y.1.1))) rfl (by kernel_rfl) (by kernel_rfl) (by kernel_rfl) rfl (fun _ _ _ h => h) (Or.inl ⟨by kernel_rfl, fun w9 hw => y_assign rfl rfl⟩) hHeld ?_
  simp only [Act.put, List.setIfInBounds_toArray, List.set_cons_zero, List.set_cons_succ]
  refine wpAnyH_done (by kernel_rfl) ?_ _
  go_wp2_with fail
  go_ret
  exact ⟨rfl, 1, #[.cells (pairL x).toArray 58, .cells (pairL y).toArray 58], by rw [HW.out, alloc_eq_grow, alloc_eq_grow, grow_grow]; rfl⟩
theorem cmp_lays (blk off size : Nat) (w : World) : CmpLays Try.prog 61 #[] pairL 36 cfK blk off size w := fun _ _ _ _ x y => closure_any x y _
theorem holds_of {w : World} {base g n c : Nat} {l : List (Key × Ent)} (h : KvRow w base (.slice (some ⟨g, 0, none⟩) n c) l) : HoldsK pairL 36 w g 0 l.toArray := by
  intro j hj
  rw [size_flatK, List.size_toArray] at hj
  obtain ⟨_, cur, hb⟩ := h.own (b := g) rfl
  obtain ⟨A, c', e, hr⟩ := h.kat
  injection e with e1 e2 e3
  have hi : j / 36 < l.length := by omega
  obtain ⟨b, o, e4, hr⟩ := hr (j / 36) l[j / 36] (List.getElem?_eq_getElem hi)
  rw [← e1] at e4
  injection e4 with e4
  injection e4 with e5 e6
  subst e5
  have hm : j % 36 < (pairL l[j / 36]).length := by rw [pairL_len]; omega
  have h1 := hr (j % 36) _ (List.getElem?_eq_getElem hm)
  rw [get_flatK _ _ _ _ (by rw [List.size_toArray]; exact hj)]
  refine ⟨?_, hb.free _⟩
  rw [show l.toArray[j / 36]! = l[j / 36] from by simp [hi], getElem!_pos (pairL l[j / 36]) (j % 36) hm]
  show w.cell? ⟨g, 0 + j, none⟩ = some ((pairL l[j / 36])[j % 36])
  rw [← h1]
  congr 2
  subst e6
  omega
theorem mod_sort {w : World} {n blk off : Nat} {d : Array (Key × Ent)} {os : Array Obj} : Mem.Mod (Mem.one blk) w (sortWorldK pairL 36 w blk off n d os) := by
  refine ⟨rfl, rfl, rfl, ?_, fun k hk hn => ?_⟩
  · show w.heap.size ≤ ((w.heap.modify blk _) ++ os).size
    simp
  · show ((w.heap.modify blk _) ++ os)[k]? = w.heap[k]?
    rw [Array.getElem?_append_left (by simpa using hk), Array.getElem?_modify, if_neg (fun e => hn e.symm)]
theorem blk_sort {w : World} {n blk off : Nat} {d : Array (Key × Ent)} {os : Array Obj} {t : TypeId} {cur : Array Value} (h : Blk w blk t cur) : ∃ cur', Blk (sortWorldK pairL 36 w blk off n d os) blk t cur' ∧ cur'.size = cur.size := by
  refine ⟨_, (?_ : ((w.heap.modify blk _) ++ os)[blk]? = some (.cells (putCells id off (flatK pairL 36 d) cur) t (0, 0))), ?_⟩
  · rw [Array.getElem?_append_left (by simpa using h.lt), Array.getElem?_modify, if_pos rfl, show w.heap[blk]? = _ from h]
    rfl
  · unfold putCells; simp
/-- What the row holds behind the sort. -/
theorem row_sort {w : World} {base g n c q : Nat} {l l' : List (Key × Ent)} {os : Array Obj} (h : KvRow w base (.slice (some ⟨g, 0, none⟩) n c) l) (hl : l'.length = l.length) : KvRow (sortWorldK pairL 36 w g 0 q l'.toArray os) base (.slice (some ⟨g, 0, none⟩) n c) l' := by
  have hH := holds_of h
  have hlen : ((l'.map pairL).flatten).length = l'.length * 36 := by rw [flat_len (sz := 36) _ (pairL_all l'), List.length_map]
  rcases h.2 with ⟨h1, _⟩ | ⟨g', cap, cur, h1, h2, h3, h4, h5, h6, h7⟩
  · cases h1
  · injection h1 with e1 e2 e3
    injection e1 with e1
    injection e1 with e1
    subst e1 e2 e3
    have hb : Blk w g 58 cur := h3
    obtain ⟨cur', hb', hs'⟩ := blk_sort (n := q) (off := 0) (d := l'.toArray) (os := os) hb
    refine ⟨hlen, .inr ⟨g, c, cur', by rw [hl], h2, hb', by rw [hl]; exact h4, h5, by rw [hs']; exact h6, ?_⟩⟩
    have hh := holdsK_sortWorldK pairL 36 w g 0 q l.toArray l'.toArray os hb.lt hH (by simp [hl])
    have hsz : l'.length * 36 ≤ cur'.size := by rw [hs', h6, hl]; omega
    apply List.ext_getElem?
    intro t
    by_cases ht : t < l'.length * 36
    · have hi : t / 36 < l'.length := by omega
      have hx : l'[t / 36]? = some l'[t / 36] := List.getElem?_eq_getElem hi
      have hm : t % 36 < (pairL l'[t / 36]).length := by rw [pairL_len]; omega
      have hf := flat_get (sz := 36) (l'.map pairL) (t / 36) (pairL l'[t / 36]) (pairL_all l') (by rw [List.getElem?_map, hx]; rfl) (t % 36) _ (List.getElem?_eq_getElem hm)
      rw [show t / 36 * 36 + t % 36 = t by omega] at hf
      rw [hf, List.getElem?_take, if_pos ht]
      have h8 := (hh t (by rw [size_flatK]; simpa using ht)).1
      rw [hb'.cell, Nat.zero_add, get_flatK _ _ _ _ (by simpa using ht)] at h8
      rw [Array.getElem?_toList, h8]
      show some ((pairL l'.toArray[t / 36]!)[t % 36]!) = _
      rw [show l'.toArray[t / 36]! = l'[t / 36] from by simp [hi], getElem!_pos (pairL l'[t / 36]) (t % 36) hm]
    · rw [List.getElem?_take, if_neg ht, List.getElem?_eq_none (by rw [hlen]; omega)]
theorem sort_ok : SortOK := by
  intro W base v l h hlen
  have eg : ∀ args w, (callFunc 61 args).run Try.prog w = .ok (.enter 61 args) w := enters_of Try.func61 (by kernel_rfl) rfl
  by_cases h0 : l.length = 0
  · have hl0 : l = [] := List.eq_nil_of_length_eq_zero h0
    subst hl0
    obtain ⟨A, c, rfl⟩ := own_form h
    have hcon := AnyF.slices_SortFunc_none (P := Try.prog) (ρ := srt_ren) { srt with } A c (.func (.func 61) #[] #[]) W
    change Calls Try.prog 60 _ _ _ at hcon
    refine hcon.mono ?_
    rintro e w' ⟨rfl, rfl⟩
    exact ⟨rfl, [], .refl _, List.Pairwise.nil, h, Mod.refl _ _⟩
  · rcases h.2 with ⟨_, h1⟩ | ⟨g, cap, cur, rfl, h2, h3, h4, h5, h6, h7⟩
    · exact absurd h1 h0
    · have hb : Blk W g 58 cur := h3
      have hcon := AnyQ.slices_SortFunc srt 36 Try.isAgg58 Try.sizeOf58 pairL pairL_len pairL_ones cfK swo_cf 61 #[] g 0 cap l.toArray W eg (cmp_lays _ _ _ _) (holds_of h) hb.lt (by rw [List.size_toArray]; omega)
      rw [List.size_toArray] at hcon
      change Calls Try.prog 60 _ _ _ at hcon
      refine hcon.mono ?_
      rintro e w' ⟨rfl, d', n, os, hp, hs, rfl⟩
      obtain ⟨l'⟩ := d'
      have hsz : l'.length = l.length := by have := hp.1; simpa using this
      have hpm : l'.Perm l := by
        have := hp.2.2
        simp only [List.extract_toArray, List.extract_eq_take_drop] at this
        simp only [Nat.sub_zero, List.drop_zero, List.size_toArray] at this
        rw [List.take_length, ← hsz, List.take_length] at this
        exact this
      refine ⟨rfl, l', hpm, ?_, row_sort h hsz, mod_sort.mono (fun k _ c => by have c : k = g := c; subst c; rfl)⟩
      refine List.pairwise_iff_getElem.2 fun i j hi hj hij => ?_
      have := hs i j (Nat.zero_le _) hij (by rw [← hsz]; exact hj)
      rw [ltOf_cf] at this
      have h9 := of_decide_eq_false this
      simpa [hi, hj] using h9
theorem ixall_any {w : World} {g : Nat} {R : Nat → Prop} {T : Nat → Tab Key Ent} {P : Nat → Nat} {Rs : Nat → Nat → Prop} (h : IxAt w g R T P Rs) (hb : ∀ i, i < 16 → (T i).L.length < 1073741824) : Calls Try.prog 28 #[.pointer (some ⟨g, 0, none⟩)] w fun e w' => ∃ hL v l, e = .returned (.func (.func 62) #[] #[.pointer (some ⟨hL, 0, none⟩)]) ∧ w.heap.size ≤ hL ∧ Blk w' hL 77 #[v] ∧ KvRow w' (hL + 1) v l ∧ l.Perm (IL T) ∧ Sorted l ∧ Mod no w w' := ixall_of sort_ok h hb
end Go.Proofs.Ytknbehjhaaidoaa.IX

