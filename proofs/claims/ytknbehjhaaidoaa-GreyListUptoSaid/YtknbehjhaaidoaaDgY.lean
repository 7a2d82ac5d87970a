/- Rows of entries that are made anew: what the row tells, and the document's copy (printed by greyval.py). -/
import Derived.Test.YtknbehjhaaidoaaDgX
import Derived.Great.BuildSlice
namespace Go.Proofs.Ytknbehjhaaidoaa.DG
open Go.RowKit Mem DQ
set_option linter.unusedVariables false
set_option linter.unusedSimpArgs false

theorem slice_run (w : World) {x : List Value} (hx : Ele x) : (Instr.buildSlice 35 1 #[(0, .agg x.toArray)]).run Try.prog w = .ok (.slice (some ⟨w.heap.size, 0, none⟩) 1 1) (w.alloc (.cells x.toArray 89)) := by
  obtain ⟨i0, hi, hz0, hz1, hz2⟩ := info_parts grey_zero
  refine run_buildSlice w _ _ 1 _ x.toArray i0 (.agg zl.toArray) Try.underlying35 hi hz0 (by rw [hz1]; decide) (by rw [hz1]; decide) ?_
  rw [hz1]
  have h := Great.fill_whole (s := 33) (by decide) [.agg x.toArray] ((Array.range (1 * 33)).map ((Value.agg zl.toArray).cells[· % (Value.agg zl.toArray).cells.size]!)) (fun v hv => by simp at hv; subst hv; exact ele_size hx) (by simp)
  rw [show ([Value.agg x.toArray].flatMap fun v => v.cells.toList).toArray = x.toArray from by simp [Value.cells]] at h
  exact h
section
variable {a : Act} {o : Oper} {w w' : World}
theorem y_slice {q : Operand} {x : List Value} (ho : o.op = .buildSlice 35 1 #[(0, q)]) (hq : a.eval q = .agg x.toArray) (hx : Ele x) : (execOp a.eval o).run Try.prog w = .ok (.value (.slice (some ⟨w.heap.size, 0, none⟩) 1 1)) (w.alloc (.cells x.toArray 89)) := by
  have h := slice_run w hx
  unfold execOp
  simp only [ho, hq, List.map_toArray, List.map_cons, List.map_nil, Sem.run_bind, h, Result.andThen_ok, Sem.run_pure]
theorem op_append {K : Act → World → Prop} {Q : Exit → Act → World → Prop} {s q : Operand} (ho : o.op = .call { callee := .builtin .append, args := #[s, q], argTypes := #[35, 35] }) {base n b : Nat} {v : Value} {xs x : List Value}
    (hs : a.eval s = v) (hq : a.eval q = .slice (some ⟨b, 0, none⟩) 1 1) (hown : w.ownsRow base 89 33 v n xs) (hb : Blk w b 89 x.toArray) (hx : Ele x) (hn : n ≤ 2097152) (hbase : base ≤ w.heap.size)
    (h : ∀ v' w', w'.ownsRow base 89 33 v' (n + 1) (xs ++ x) → w.grownBy w' v.ownBlock → (v'.ownBlock = v.ownBlock ∨ v'.ownBlock = some w.heap.size) → K (a.put o.dst v') w') : Oper.wp Try.prog o a w K Q := by
  obtain ⟨i0, hi, hz0, hz1, hz2⟩ := info_parts grey_zero
  obtain ⟨v', w', hrun, h2, h3, h4, _⟩ := run_append (P := Try.prog) w base 35 o.type 89 i0 (.agg zl.toArray) 33 40 Try.underlying35 hi hz0 hz1 hz2 rfl (by decide) v n xs hown (some ⟨b, 0, none⟩) 1 1 x (Rds.of_blk hb hx.1 (fun j u hu => by rw [Nat.zero_add, List.getElem?_toArray]; exact hu)) hx.2 (by simp only [maxLen]; omega) (by omega) hbase
  unfold Oper.wp execOp
  simp only [ho, resolve, invoke, builtin, Sem.run_bind, Sem.run_pure, Result.andThen_ok, List.map_toArray, List.map_cons, List.map_nil, hs, hq, hrun]
  exact h v' w' h2 h3 h4
end
/-- One element more onto a row of the call's own, where nothing is drawn. -/
theorem wpList_one {ops : Array Oper} {rest : List Oper} {o : Oper} {a : Act} {w : World} {Q : Exit → Act → World → Prop} (hgd : o.guard = none) (q : Operand) (ho : o.op = .buildSlice 35 1 #[(0, q)]) (x : List Value) (hq : a.eval q = .agg x.toArray) (hx : Ele x)
    (h : wpList Try.prog ops Q rest (a.put o.dst (.slice (some ⟨w.heap.size, 0, none⟩) 1 1)) (w.alloc (.cells x.toArray 89))) : wpList Try.prog ops Q (o :: rest) a w :=
  wpList_plain hgd fun K hK => op_yield (y_slice ho hq hx) (hK _ _ h)
theorem wpList_app {ops : Array Oper} {rest : List Oper} {o : Oper} {a : Act} {w : World} {Q : Exit → Act → World → Prop} (hgd : o.guard = none) (s q : Operand) (ho : o.op = .call { callee := .builtin .append, args := #[s, q], argTypes := #[35, 35] }) (base n b : Nat) (v : Value) (xs x : List Value)
    (hs : a.eval s = v) (hq : a.eval q = .slice (some ⟨b, 0, none⟩) 1 1) (hown : w.ownsRow base 89 33 v n xs) (hb : Blk w b 89 x.toArray) (hx : Ele x) (hn : n ≤ 2097152) (hbase : base ≤ w.heap.size)
    (h : ∀ v' w', w'.ownsRow base 89 33 v' (n + 1) (xs ++ x) → w.grownBy w' v.ownBlock → (v'.ownBlock = v.ownBlock ∨ v'.ownBlock = some w.heap.size) → wpList Try.prog ops Q rest (a.put o.dst v') w') : wpList Try.prog ops Q (o :: rest) a w :=
  wpList_plain hgd fun K hK => op_append ho hs hq hown hb hx hn hbase (fun v' w' h2 h3 h4 => hK _ _ (h v' w' h2 h3 h4))

/-- A row of the call's own is as it was where only others turn. -/
theorem own_mod33 {S : Nat → Prop} {w w' : World} {base n : Nat} {v : Value} {xs : List Value} (h : w.ownsRow base 89 33 v n xs) (hm : Mod S w w') (hn : ∀ b, base ≤ b → b < w.heap.size → ¬ S b) : w'.ownsRow base 89 33 v n xs := by
  refine ⟨h.1, ?_⟩
  rcases h.2 with h2 | ⟨g, cap, cur, h1, h2, h3, h4⟩
  · exact .inl h2
  · have hlt : g < w.heap.size := Blk.lt (show Blk w g 89 cur from h3)
    exact .inr ⟨g, cap, cur, h1, h2, (hm.block g hlt (hn g h2 hlt)).trans h3, h4⟩
/-- What append did, as Mod: nothing below the row's own base has turned. -/
theorem app_mod {w0 w w' : World} {base n : Nat} {v : Value} {xs : List Value} (h : w.ownsRow base 89 33 v n xs) (hg : w.grownBy w' v.ownBlock) (hb : w0.heap.size ≤ base) (m : Mod no w0 w) : Mod no w0 w' := by
  refine m.trans (Mod.of_grown (S := fun b => base ≤ b) hg fun k hk e => ?_) fun b hb' c => by
    have c : base ≤ b := c
    omega
  rcases h.2 with ⟨h1, _⟩ | ⟨g, cap, cur, h1, h2, _⟩
  · rw [h1] at e; cases e
  · rw [h1] at e
    have e : g = k := by injection e
    omega

def ValI (w : World) (L : List (List Value)) (v y i : Value) (wr : World) : Prop :=
  ∃ k : Nat, k ≤ L.length ∧ i = .int .i64 (k : Int) ∧ wr.ownsRow w.heap.size 89 33 v k (L.take k).flatten ∧ Mod no w wr

set_option maxRecDepth 100000 in
set_option maxHeartbeats 4000000 in
theorem values_any {w : World} {dp : Option Addr} {L : List (List Value)} (h : QAt w dp L) (hL : L.length ≤ 1048600) :
    Calls Try.prog 81 #[.pointer dp] w fun e w' => ∃ v, e = .returned v ∧ w'.ownsRow w.heap.size 89 33 v L.length L.flatten ∧ Mod no w w' := by
  have H0 := Lib.hid h
  have HL := Lib.hid hL
  clear h hL
  go_enter Try.func81, Try.ntmps81
  go_wp2_with (go_at_call 49; refine (len_q H0.out).mono ?_; rintro e w' ⟨rfl, rfl⟩)
  go_loopw [3, 4, 7] (ValI w L) (fun _ _ i _ => L.length - (intOf i).toNat)
  case atStart => exact ⟨0, Nat.zero_le _, rfl, ⟨by simp, .inl ⟨rfl, rfl⟩⟩, Mod.refl _ _⟩
  case round =>
    obtain ⟨k, hk, rfl, hown, M⟩ := hrel
    by_cases hkl : k < L.length
    · rcases H0.out with ⟨_, hnil⟩ | ⟨g, gr, rfl, C, f, H, hc1, hc2⟩
      · rw [hnil] at hkl; exact absurd hkl (by simp)
      obtain ⟨x, hx⟩ : ∃ x, L[k]? = some x := ⟨_, List.getElem?_eq_getElem hkl⟩
      obtain ⟨p, hp⟩ : ∃ p, p = (f + k) % C.length := ⟨_, rfl⟩
      have hcx : C[p]? = some x := by rw [hp]; exact H.h.at_ k x hx
      have hpl := (List.getElem?_eq_some_iff.1 hcx).1
      have hel := H.e x (List.mem_of_getElem? hcx)
      have hfr := H.h.from_
      have hkL : (k : Int) < (L.length : Int) := by omega
      have hw64 : wrap64 ((k : Int) + 1) = (k : Int) + 1 := IntWalk.wrap64_in _ (by have := HL.out; omega)
      have HP := Lib.hid (And.intro hp (And.intro hpl (And.intro hcx hel)))
      have HF := Lib.hid (show f ≤ 10000000 ∧ k ≤ 10000000 ∧ 0 < C.length ∧ C.length ≤ 10000000 by have := HL.out; omega)
      have HR := Lib.hid (H.mod M (fun c => c) (fun c => c))
      have HB := Lib.hid (And.intro hown (And.intro M (And.intro hx hkl)))
      have hgl := H.d.lt
      have hgrl := H.r.lt
      have hs := M.size
      clear hown M hx hp hcx hpl hel hfr H hc1 hc2 hk hkl
      go_wp2_with fail
      have HD := Lib.hid (HR.out.mod ((Mod.refl no wr).drew) (fun c => c) (fun c => c))
      refine wp_region_held_drew (S := fun w' => w'.cell? ⟨g, 1, none⟩ = some (.slice (some ⟨gr, 0, none⟩) C.length C.length) ∧ w'.rangeAt gr (p * 33) x) (by kernel_rfl) ⟨by rw [HD.out.d.cell]; rfl, HD.out.range HP.out.2.2.1⟩ (fun hHeld => ?_)
      refine takeD (i := 0) (d := some 10) (v := u3) rfl (by kernel_rfl) (by kernel_rfl) (by kernel_rfl) rfl (fun _ _ _ h => h) (Or.inl ⟨by kernel_rfl, fun w9 hw => y_move rfl rfl⟩) hHeld ?_
      simp only [Act.put, List.setIfInBounds_toArray, List.set_cons_zero, List.set_cons_succ]
      refine takeD (i := 1) (d := some 11) (v := (.pointer (some ⟨g, 0, none⟩))) rfl (by kernel_rfl) (by kernel_rfl) (by kernel_rfl) rfl (fun _ _ _ h => h) (Or.inl ⟨by kernel_rfl, fun w9 hw => y_move rfl rfl⟩) hHeld ?_
      simp only [Act.put, List.setIfInBounds_toArray, List.set_cons_zero, List.set_cons_succ]
      refine takeD (i := 2) (d := some 12) (v := (.pointer (some ⟨g, 0, none⟩))) rfl (by kernel_rfl) (by kernel_rfl) (by kernel_rfl) rfl (fun _ _ _ h => h) (Or.inl ⟨by kernel_rfl, fun w9 hw => y_nil rfl rfl⟩) hHeld ?_
      simp only [Act.put, List.setIfInBounds_toArray, List.set_cons_zero, List.set_cons_succ]
      refine takeD (i := 3) (d := some 13) (v := (.pointer (some ⟨g, 1, none⟩))) rfl (by kernel_rfl) (by kernel_rfl) (by kernel_rfl) rfl (fun _ _ _ h => h) (Or.inl ⟨by kernel_rfl, fun w9 hw => y_ring rfl rfl⟩) hHeld ?_
      simp only [Act.put, List.setIfInBounds_toArray, List.set_cons_zero, List.set_cons_succ]
      refine takeD (i := 4) (d := some 14) (v := (.slice (some ⟨gr, 0, none⟩) C.length C.length)) rfl (by kernel_rfl) (by kernel_rfl) (by kernel_rfl) rfl (fun _ _ _ h => h) (Or.inl ⟨by kernel_rfl, fun w9 hw => y_load rfl (.inr rfl) rfl hw.1 rfl⟩) hHeld ?_
      simp only [Act.put, List.setIfInBounds_toArray, List.set_cons_zero, List.set_cons_succ]
      refine takeD (i := 5) (d := some 15) (v := (.pointer (some ⟨g, 0, none⟩))) rfl (by kernel_rfl) (by kernel_rfl) (by kernel_rfl) rfl (fun _ _ _ h => h) (Or.inl ⟨by kernel_rfl, fun w9 hw => y_move rfl rfl⟩) hHeld ?_
      simp only [Act.put, List.setIfInBounds_toArray, List.set_cons_zero, List.set_cons_succ]
      refine takeD (i := 6) (d := some 16) (v := (.int .i64 (k : Int))) rfl (by kernel_rfl) (by kernel_rfl) (by kernel_rfl) rfl (fun _ _ _ h => h) (Or.inl ⟨by kernel_rfl, fun w9 hw => y_move rfl rfl⟩) hHeld ?_
      simp only [Act.put, List.setIfInBounds_toArray, List.set_cons_zero, List.set_cons_succ]
      refine readyD (i := 7) (d := some 17) rfl (by kernel_rfl) rfl (by kernel_rfl) fun K hK => ?_
      refine op_place rfl rfl rfl (place_any HP.out.1 HD.out.d HF.out.1 HF.out.2.1 HF.out.2.2.1 HF.out.2.2.2) ?_
      rintro e w3 ⟨rfl, n3, hw3⟩
      have m3 : Mod no wr w3 := by rw [hw3]; exact ((Mod.refl no wr).drew).drewN n3
      have H3 := Lib.hid (And.intro (HR.out.mod m3 (fun c => c) (fun c => c)) (And.intro (own_mod33 HB.out.1 m3 (fun _ _ _ c => c)) (HB.out.2.1.and_then m3)))
      refine ⟨_, rfl, hK _ _ ⟨by rw [H3.out.1.d.cell]; rfl, H3.out.1.range HP.out.2.2.1⟩ fun hHeld3 => ?_⟩
      clear hK K hw3 m3 hHeld
      have hHeld := hHeld3
      clear hHeld3
      simp only [Act.put, List.setIfInBounds_toArray, List.set_cons_zero, List.set_cons_succ]
      refine takeD (i := 8) (d := some 18) (v := (.pointer (some ⟨gr, p * 33, none⟩))) rfl (by kernel_rfl) (by kernel_rfl) (by kernel_rfl) rfl (fun _ _ _ h => h) (Or.inl ⟨by kernel_rfl, fun w9 hw => y_index rfl rfl rfl HP.out.2.1⟩) hHeld ?_
      simp only [Act.put, List.setIfInBounds_toArray, List.set_cons_zero, List.set_cons_succ]
      refine takeD (i := 9) (d := some 19) (v := (.agg x.toArray)) rfl (by kernel_rfl) (by kernel_rfl) (by kernel_rfl) rfl (fun _ _ _ h => h) (Or.inl ⟨by kernel_rfl, fun w9 hw => y_mid rfl rfl hw.2 HP.out.2.2.2.1⟩) hHeld ?_
      simp only [Act.put, List.setIfInBounds_toArray, List.set_cons_zero, List.set_cons_succ]
      refine readyD (i := 10) (d := some 20) rfl (by kernel_rfl) rfl (by kernel_rfl) fun K hK => ?_
      have m4 : Mod no w3 (w3.alloc (.cells x.toArray 89)) := (Mod.refl no w3).alloc _
      have H4 := Lib.hid (And.intro (H3.out.1.mod m4 (fun c => c) (fun c => c)) (And.intro (own_mod33 H3.out.2.1 m4 (fun _ _ _ c => c)) (And.intro (H3.out.2.2.and_then m4) (Blk.new w3 89 x.toArray))))
      refine op_yield (y_slice rfl rfl HP.out.2.2.2) (hK _ _ ⟨by rw [H4.out.1.d.cell]; rfl, H4.out.1.range HP.out.2.2.1⟩ fun hHeld4 => ?_)
      clear hK K m4 hHeld H3
      have hHeld := hHeld4
      clear hHeld4
      simp only [Act.put, List.setIfInBounds_toArray, List.set_cons_zero, List.set_cons_succ]
      generalize w3.alloc (.cells x.toArray 89) = w4 at *
      refine readyD (i := 11) (d := some 21) rfl (by kernel_rfl) rfl (by kernel_rfl) fun K hK => ?_
      refine op_append rfl rfl rfl H4.out.2.1 H4.out.2.2.2 HP.out.2.2.2 (by have := HF.out; have := HL.out; have := HB.out.2.2.2; omega) H4.out.2.2.1.size (fun v' w5 hown5 hg5 hat5 => ?_)
      have M5 := app_mod H4.out.2.1 hg5 (Nat.le_refl _) H4.out.2.2.1
      have hd5 := (H0.out)
      have hR5 : Blk w5 g 121 #[.bool true, .slice (some ⟨gr, 0, none⟩) C.length C.length, .int .i64 (f : Int), .int .i64 (L.length : Int)] ∧ Blk w5 gr 89 C.flatten.toArray := by
        have hG := H4.out.1
        have hm : Mod (fun b => w.heap.size ≤ b) w4 w5 := Mod.of_grown hg5 fun k hk e => by
          rcases H4.out.2.1.2 with ⟨h1, _⟩ | ⟨g', cap, cur, h1, h2, _⟩
          · rw [h1] at e; cases e
          · rw [h1] at e
            have e : g' = k := by injection e
            omega
        exact ⟨hG.d.mod hm (by omega), hG.r.mod hm (by omega)⟩
      refine hK _ _ ⟨by rw [hR5.1.cell]; rfl, blk_range hR5.2 H4.out.1.len HP.out.2.2.1⟩ fun hHeld5 => ?_
      have H5 := Lib.hid (And.intro hown5 M5)
      clear hK K hHeld hown5 hg5 hat5 M5 hd5 hR5
      have hHeld := hHeld5
      clear hHeld5
      simp only [Act.put, List.setIfInBounds_toArray, List.set_cons_zero, List.set_cons_succ]
      refine takeD (i := 12) (d := some 3) (v := v') rfl (by kernel_rfl) (by kernel_rfl) (by kernel_rfl) rfl (fun _ _ _ h => h) (Or.inl ⟨by kernel_rfl, fun w9 hw => y_assign rfl rfl⟩) hHeld ?_
      simp only [Act.put, List.setIfInBounds_toArray, List.set_cons_zero, List.set_cons_succ]
      refine wpAnyH_done (by kernel_rfl) ?_ _
      try simp only [Act.put]
      clear H4
      go_wp2_with fail
      go_roundw
      case rel =>
        refine ⟨k + 1, HB.out.2.2.2, by go_num, ?_, H5.out.2⟩
        rw [List.take_add_one, HB.out.2.2.1, List.flatten_append]
        simpa using H5.out.1
      case measure =>
        try rw [hw64]
        clear hw64
        have := HB.out.2.2.2
        show L.length - ((k : Int) + 1).toNat < L.length - ((k : Int)).toNat
        omega
    · obtain rfl : k = L.length := by omega
      have hkL : ¬ (L.length : Int) < (L.length : Int) := by omega
      rw [List.take_length] at hown
      have HB := Lib.hid (And.intro hown M)
      clear hown M hk hkl
      go_wp2_with fail
      go_ret
      exact ⟨_, rfl, HB.out.1, HB.out.2⟩

end Go.Proofs.Ytknbehjhaaidoaa.DG
