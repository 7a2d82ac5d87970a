/- Two entries that are the same; the law's alike (printed by greyalike.py). -/
import Derived.Test.YtknbehjhaaidoaaEdE
import Derived.Stop.BytesEq
namespace Go.Proofs.Ytknbehjhaaidoaa.DG
open Go.RowKit Mem DQ
set_option linter.unusedVariables false
set_option linter.unusedSimpArgs false

/-- A key of these bytes. -/
def kOf (bs : List UInt8) : List Value := bs.map Extern.Stop.cell
/-- An entry that can be asked whether it is another one. -/
def KE (x : List Value) : Prop := ∃ (bs : List UInt8) (n : Int), bs.length = 32 ∧ -9223372036854775808 ≤ n ∧ n ≤ 9223372036854775807 ∧ x = ent (kOf bs) n
theorem kOf_key {bs : List UInt8} (h : bs.length = 32) : Key (kOf bs) := ⟨by simp [kOf, h], fun v hv => by
  obtain ⟨b, _, rfl⟩ := List.mem_map.1 hv
  rfl⟩
theorem KE.ele {x : List Value} (h : KE x) : Ele x := by
  obtain ⟨bs, n, hb, _, _, rfl⟩ := h
  exact (kOf_key hb).ent n
theorem zl_ke : KE zl := ⟨List.replicate 32 0, 0, by simp, by decide, by decide, by
  unfold zl ent kOf
  rw [List.map_replicate]
  rfl⟩
set_option maxRecDepth 100000 in
theorem grey_fields : (Try.prog.fieldsOf 89).toList = [{ name := "Key", type := 39, offset := 0, embedded := false, tag := "", pkgPath := "", byteOffset := 0 },
      { name := "Next", type := 3, offset := 32, embedded := false, tag := "", pkgPath := "", byteOffset := 32 }] := by
  unfold Program.fieldsOf
  rw [Try.underlying89]
set_option maxRecDepth 100000 in
theorem grey_isStruct : Try.prog.underlying 89 = some (.struct (Try.prog.fieldsOf 89)) := by
  unfold Program.fieldsOf
  rw [Try.underlying89]
set_option maxRecDepth 100000 in
theorem grey_stood : Try.prog.stoodInHeld 89 = false := by kernel_rfl
theorem grey_guard : Try.prog.eqGuardType Try.prog.depth 89 = false := by kernel_rfl
set_option maxRecDepth 100000 in
theorem part_key {w : World} {bs : List UInt8} {n : Int} (h : bs.length = 32) : (part 39 (ent (kOf bs) n).toArray 0).run Try.prog w = .ok (.agg (kOf bs).toArray) w := by
  have hk : (kOf bs).length = 32 := by simp [kOf, h]
  obtain ⟨i0, hi, hsz⟩ : ∃ i0, Try.prog.info? 39 = some i0 ∧ i0.size = 32 := by
    have h := key_infoG (k := kOf bs) hk
    cases hi : Try.prog.info? 39 with
    | none => rw [hi] at h; cases h
    | some i0 => rw [hi] at h; injection h with h; exact ⟨i0, rfl, h.trans hk⟩
  have hsl : (ent (kOf bs) n).toArray.extract 0 32 = (kOf bs).toArray := by
    unfold ent
    rw [List.extract_toArray]
    simp [hk]
  unfold part
  simp [isAgg, Try.underlying39, sizeOf, typeInfo, hi, hsz]
  unfold ent
  rw [← hk, List.take_left]
theorem part_next {w : World} {bs : List UInt8} {n : Int} (h : bs.length = 32) : (part 3 (ent (kOf bs) n).toArray 32).run Try.prog w = .ok (.int .i64 n) w := by
  have hx : (ent (kOf bs) n).toArray[32]? = some (.int .i64 n) := by
    rw [List.getElem?_toArray]
    exact ent_next (by simp [kOf, h]) n
  unfold part
  simp [isAgg, Try.underlying3, hx]
theorem size_u8 (w : World) : (sizeOf 5).run Try.prog w = .ok 1 w := by
  obtain ⟨i0, hi, hs⟩ : ∃ i0, Try.prog.info? 5 = some i0 ∧ i0.size = 1 := by
    have h : (Try.prog.info? 5).map (·.size) = some 1 := by kernel_rfl
    cases hi : Try.prog.info? 5 with
    | none => rw [hi] at h; cases h
    | some i0 => rw [hi] at h; injection h with h; exact ⟨i0, rfl, h⟩
  simp [sizeOf, typeInfo, hi, hs]
set_option maxRecDepth 100000 in
theorem same_grey {w : World} {x : List Value} (h : KE x) : (Op.equalIn 10000 89 (.agg x.toArray) (.agg x.toArray)).run Try.prog w = .ok true w := by
  obtain ⟨bs, n, hb, _, _, rfl⟩ := h
  have hk : (Op.equalIn 9999 39 (.agg (kOf bs).toArray) (.agg (kOf bs).toArray)).run Try.prog w = .ok true w := by
    have h := run_equalIn_bytes (P := Try.prog) w 9997 39 5 32 Try.underlying39 Try.underlying5 size_u8 bs bs hb hb
    rw [beq_self_eq_true] at h
    exact h
  have hi : (Op.equalIn 9999 3 (.int .i64 n) (.int .i64 n)).run Try.prog w = .ok true w := by
    have h := run_equalIn_int (P := Try.prog) w 9998 3 .i64 .i64 n n Try.underlying3
    rw [beq_self_eq_true] at h
    exact h
  rw [run_equalIn_agg (P := Try.prog) w 9999 89 _ _ grey_isStruct grey_stood, grey_fields]
  simp only [Op.eqFields, Sem.run_bind, Sem.run_ite, part_key hb, part_next hb, Result.andThen_ok, hk, hi, Bool.not_true, Bool.false_eq_true, if_false, Sem.run_pure]
  rfl
section
variable {a : Act} {o : Oper} {w : World}
theorem y_neqG {x y : Operand} {u : List Value} (ho : o.op = .binOp .neq 89 x y 89) (hx : a.eval x = .agg u.toArray) (hy : a.eval y = .agg u.toArray) (h : KE u) : (execOp a.eval o).run Try.prog w = .ok (.value (.bool false)) w := by
  generalize a.eval = ev at hx hy
  unfold execOp
  simp only [ho, hx, hy, Sem.run_bind, run_eqGuard_agg (P := Try.prog) w .neq 89 x y u.toArray u.toArray grey_guard, Result.andThen_ok, run_neq_struct, same_grey h, Bool.not_true, Sem.run_pure]
theorem y_eqlG {x y : Operand} {u : List Value} (ho : o.op = .binOp .eql 89 x y 89) (hx : a.eval x = .agg u.toArray) (hy : a.eval y = .agg u.toArray) (h : KE u) : (execOp a.eval o).run Try.prog w = .ok (.value (.bool true)) w := by
  generalize a.eval = ev at hx hy
  unfold execOp
  simp only [ho, hx, hy, Sem.run_bind, run_eqGuard_agg (P := Try.prog) w .eql 89 x y u.toArray u.toArray grey_guard, Result.andThen_ok, run_eql_struct, same_grey h, Sem.run_pure]
theorem y_idx {x y : Operand} {b o' n c k : Nat} (ho : o.op = .indexAddr 35 x y) (hx : a.eval x = .slice (some ⟨b, o', none⟩) n c) (hy : a.eval y = .int .i64 (k : Int)) (hk : k < n) : (execOp a.eval o).run Try.prog w = .ok (.value (.pointer (some ⟨b, o' + k * 33, none⟩))) w := by
  have hkn : (k : Int) < (n : Int) := by omega
  generalize a.eval = ev at hx hy
  unfold execOp
  simp only [ho, hx, hy]
  go_simp
end
def AlkI (W : World) (n : Nat) (i : Value) (wr : World) : Prop := ∃ k : Nat, k ≤ n ∧ i = .int .i64 (k : Int) ∧ Mod no W wr

set_option maxRecDepth 100000 in
set_option maxHeartbeats 4000000 in
theorem alike_same {w : World} {A B : Option Addr} {ca cb : Nat} {L : List (List Value)} (hA : Src w A L) (hB : Src w B L) (he : ∀ x ∈ L, KE x) (hL : L.length ≤ 1048600) :
    Calls Try.prog 47 #[.slice A L.length ca, .slice B L.length cb] w fun e w' => e = .returned (.bool true) ∧ Mod no w w' := by
  have H0 := Lib.hid (And.intro hA (And.intro hB (And.intro he hL)))
  clear hA hB he hL
  go_enter Try.func47, Try.ntmps47
  go_wp2_with fail
  go_loopw [5] (AlkI w L.length) (fun i _ => L.length - (intOf i).toNat)
  case atStart => exact ⟨0, Nat.zero_le _, rfl, Mod.refl _ _⟩
  case round =>
    obtain ⟨k, hk, rfl, M⟩ := hrel
    by_cases hkl : k < L.length
    · obtain ⟨b1, o1, rfl, hb1, hr1⟩ := H0.out.1.at_ (by omega)
      obtain ⟨b2, o2, rfl, hb2, hr2⟩ := H0.out.2.1.at_ (by omega)
      obtain ⟨x, hx⟩ : ∃ x, L[k]? = some x := ⟨_, List.getElem?_eq_getElem hkl⟩
      have hke := H0.out.2.2.1 x (List.mem_of_getElem? hx)
      have hkL : (k : Int) < (L.length : Int) := by omega
      have hw64 : wrap64 ((k : Int) + 1) = (k : Int) + 1 := IntWalk.wrap64_in _ (by have := H0.out.2.2.2; omega)
      have hg1 : wr.rangeAt b1 (o1 + k * 33) x := fun j u hu => by rw [M.cell hb1 (fun c => c)]; exact hr1 k x hx j u hu
      have hg2 : wr.rangeAt b2 (o2 + k * 33) x := fun j u hu => by rw [M.cell hb2 (fun c => c)]; exact hr2 k x hx j u hu
      have HB := Lib.hid (And.intro hkl (And.intro hke (And.intro hg1 hg2)))
      have HM := Lib.hid M.drew
      clear M hx hk hke hr1 hr2 hkl
      go_wp2_with fail
      refine wp_region_held_drew (S := fun w' => w'.rangeAt b1 (o1 + k * 33) x ∧ w'.rangeAt b2 (o2 + k * 33) x) (by kernel_rfl) ⟨HB.out.2.2.1, HB.out.2.2.2⟩ (fun hHeld => ?_)
      refine takeD (i := 0) (d := some 17) (v := (.slice (some ⟨b1, o1, none⟩) L.length ca)) rfl (by kernel_rfl) (by kernel_rfl) (by kernel_rfl) rfl (fun _ _ _ h => h) (Or.inl ⟨by kernel_rfl, fun w9 hw => y_move rfl rfl⟩) hHeld ?_
      simp only [Act.put, List.setIfInBounds_toArray, List.set_cons_zero, List.set_cons_succ]
      refine takeD (i := 1) (d := some 18) (v := (.int .i64 (k : Int))) rfl (by kernel_rfl) (by kernel_rfl) (by kernel_rfl) rfl (fun _ _ _ h => h) (Or.inl ⟨by kernel_rfl, fun w9 hw => y_move rfl rfl⟩) hHeld ?_
      simp only [Act.put, List.setIfInBounds_toArray, List.set_cons_zero, List.set_cons_succ]
      refine takeD (i := 2) (d := some 19) (v := (.pointer (some ⟨b1, o1 + k * 33, none⟩))) rfl (by kernel_rfl) (by kernel_rfl) (by kernel_rfl) rfl (fun _ _ _ h => h) (Or.inl ⟨by kernel_rfl, fun w9 hw => y_idx rfl rfl rfl HB.out.1⟩) hHeld ?_
      simp only [Act.put, List.setIfInBounds_toArray, List.set_cons_zero, List.set_cons_succ]
      refine takeD (i := 3) (d := some 20) (v := (.agg x.toArray)) rfl (by kernel_rfl) (by kernel_rfl) (by kernel_rfl) rfl (fun _ _ _ h => h) (Or.inl ⟨by kernel_rfl, fun w9 hw => y_mid rfl rfl hw.1 HB.out.2.1.ele.1⟩) hHeld ?_
      simp only [Act.put, List.setIfInBounds_toArray, List.set_cons_zero, List.set_cons_succ]
      refine takeD (i := 4) (d := some 21) (v := (.slice (some ⟨b2, o2, none⟩) L.length cb)) rfl (by kernel_rfl) (by kernel_rfl) (by kernel_rfl) rfl (fun _ _ _ h => h) (Or.inl ⟨by kernel_rfl, fun w9 hw => y_move rfl rfl⟩) hHeld ?_
      simp only [Act.put, List.setIfInBounds_toArray, List.set_cons_zero, List.set_cons_succ]
      refine takeD (i := 5) (d := some 22) (v := (.int .i64 (k : Int))) rfl (by kernel_rfl) (by kernel_rfl) (by kernel_rfl) rfl (fun _ _ _ h => h) (Or.inl ⟨by kernel_rfl, fun w9 hw => y_move rfl rfl⟩) hHeld ?_
      simp only [Act.put, List.setIfInBounds_toArray, List.set_cons_zero, List.set_cons_succ]
      refine takeD (i := 6) (d := some 23) (v := (.pointer (some ⟨b2, o2 + k * 33, none⟩))) rfl (by kernel_rfl) (by kernel_rfl) (by kernel_rfl) rfl (fun _ _ _ h => h) (Or.inl ⟨by kernel_rfl, fun w9 hw => y_idx rfl rfl rfl HB.out.1⟩) hHeld ?_
      simp only [Act.put, List.setIfInBounds_toArray, List.set_cons_zero, List.set_cons_succ]
      refine takeD (i := 7) (d := some 24) (v := (.agg x.toArray)) rfl (by kernel_rfl) (by kernel_rfl) (by kernel_rfl) rfl (fun _ _ _ h => h) (Or.inl ⟨by kernel_rfl, fun w9 hw => y_mid rfl rfl hw.2 HB.out.2.1.ele.1⟩) hHeld ?_
      simp only [Act.put, List.setIfInBounds_toArray, List.set_cons_zero, List.set_cons_succ]
      refine takeD (i := 8) (d := some 25) (v := (.bool false)) rfl (by kernel_rfl) (by kernel_rfl) (by kernel_rfl) rfl (fun _ _ _ h => h) (Or.inl ⟨by kernel_rfl, fun w9 hw => y_neqG rfl rfl rfl HB.out.2.1⟩) hHeld ?_
      simp only [Act.put, List.setIfInBounds_toArray, List.set_cons_zero, List.set_cons_succ]
      refine wpAnyH_done (by kernel_rfl) ?_ _
      go_wp2_with fail
      go_roundw
      case rel => exact ⟨k + 1, HB.out.1, by go_num, HM.out⟩
      case measure =>
        try rw [hw64]
        clear hw64
        have := HB.out.1
        show L.length - ((k : Int) + 1).toNat < L.length - ((k : Int)).toNat
        omega
    · obtain rfl : k = L.length := by omega
      have hkL : ¬ (L.length : Int) < (L.length : Int) := by omega
      have HB := Lib.hid M
      clear M hk hkl
      go_wp2_with fail
      go_ret
      exact ⟨rfl, HB.out⟩

end Go.Proofs.Ytknbehjhaaidoaa.DG
