/- The law's again: what is added, to give what was taken (printed by wireagain.py). -/
import Derived.Test.YtpfkcejndjnbhaaOnlyM
import Derived.Test.YtpfkcejndjnbhaaBackL
namespace Go.Proofs.Ytpfkcejndjnbhaa.ON
open Go.RowKit Mem WM
open Go.Proofs.Ytpfkcejndjnbhaa.WD (RdT u8_info own_mod key_size takeV gotV mod_sets)
open Go.Proofs.Ytpfkcejndjnbhaa.OP (AddI AddAt allB Elems cell_lt)
open Go.Proofs.Ytpfkcejndjnbhaa.EN (addL addV addA)
open Go.Proofs.Ytpfkcejndjnbhaa.BK (add_range range_mod add_info)
set_option linter.unusedVariables false
set_option linter.unusedSimpArgs false

theorem bytes_row (w : World) (B : List UInt8) : ∃ cap w', (convert 9 23 (.string ⟨B.toArray⟩)).run Try.prog w = .ok (.slice (some ⟨w.heap.size, 0, none⟩) B.length cap) w' ∧ Mod no w w' ∧ w.heap.size < w'.heap.size ∧ Rds w' 1 (some ⟨w.heap.size, 0, none⟩) B.length (bvs B) := by
  refine ⟨_, _, run_bytes_of_string (P := Try.prog) w _ _ _ ⟨B.toArray⟩ Try.underlying9 Try.underlying23 Try.underlying5, ?_, ?_, ?_⟩
  · exact ((Mod.refl no w).drew).alloc _
  · simp
  · refine ⟨by simp [bvs], fun _ => ⟨_, rfl, fun j u hu => ?_⟩⟩
    have hj : j < B.length := by have := (List.getElem?_eq_some_iff.1 hu).1; simpa [bvs] using this
    rw [Mem.add_plain, Nat.zero_add]
    have h := heap_alloc_new w.drew (.cells (bytesRow ⟨B.toArray⟩ (grownCap w (ByteArray.mk B.toArray).size 0 5)) 5 ((bytesRow ⟨B.toArray⟩ (grownCap w (ByteArray.mk B.toArray).size 0 5)).size, (bytesRow ⟨B.toArray⟩ (grownCap w (ByteArray.mk B.toArray).size 0 5)).size + 1))
    rw [cell_of_row _ w.heap.size j _ _ _ h, ← hu]
    unfold bytesRow
    rw [Array.getElem?_append_left (by simpa using hj)]
    simp [bvs]
    rfl

/-- '[]byte(s)': a new row. -/
theorem wpList_conv {ops : Array Oper} {rest : List Oper} {o : Oper} {a : Act} {Q : Exit → Act → World → Prop} (hgd : o.guard = none) (x : Operand) (ho : o.op = .convert 9 23 x) (w : World) (B : List UInt8) (hx : a.eval x = .string ⟨B.toArray⟩)
    (h : ∀ cap w', Mod no w w' → w.heap.size < w'.heap.size → Rds w' 1 (some ⟨w.heap.size, 0, none⟩) B.length (bvs B) → wpList Try.prog ops Q rest (a.put o.dst (.slice (some ⟨w.heap.size, 0, none⟩) B.length cap)) w') : wpList Try.prog ops Q (o :: rest) a w := by
  refine wpList_plain hgd fun K hK => ?_
  obtain ⟨cap, w', hr, hM, hs, hR⟩ := bytes_row w B
  unfold Oper.wp execOp
  simp only [ho, Sem.run_bind, Sem.run_pure, Result.andThen_ok, hx, hr]
  exact hK _ _ (h cap w' hM hs hR)

/-- The result is laid. -/
theorem again_done (w9 : World) (q : Nat) (L : List Value) (hl : L.length = 36) (a : Act) (hth : w9.there q 0 L.length) (h4 : a.tmps[4]? = some (.pointer (some ⟨q, 0, none⟩))) (hd : a.defers = []) (fn : Func) (hr : fn.results = #[.cell 4 32]) (R : Ending → World → Prop) (h : R (.returned (.agg L.toArray)) (w9.setCells q 0 L)) :
    bodyPost Try.prog fn R Exit.ret a (w9.setCells q 0 L) := by
  have hload := run_loadVar_mid (P := Try.prog) (w9.setCells q 0 L) q 0 32 L _ (World.rangeAt_setCells_same w9 q 0 L hth) Try.underlying32 rfl (add_info hl)
  refine bodyPost_ret (v := .agg L.toArray) ?_ hd h
  simp [results, hr, h4, asAddr, hload]

theorem addL_one (kind : Int) (N : Nat) (S : List UInt8) (A : Option Addr) (n c : Nat) (K : List UInt8) : (addL kind N S A n c K).toArray.all (·.oneCell') = true := by
  refine all_oneCell_toArray fun v hv => ?_
  rcases List.mem_append.1 hv with h | h
  · simp at h
    rcases h with rfl | rfl | rfl | rfl <;> rfl
  · exact bvs_one K v h
theorem addL_len (kind : Int) (N : Nat) (S : List UInt8) (A : Option Addr) (n c : Nat) (K : List UInt8) (hK : K.length = 32) : (addL kind N S A n c K).length = 36 := by
  simp [addL, bvs, hK]

/-- An operation that yields a value, by its run. -/
theorem wpList_run {ops : Array Oper} {rest : List Oper} {o : Oper} {a : Act} {Q : Exit → Act → World → Prop} (hgd : o.guard = none) {w w' : World} (v : Value) (hr : (execOp a.eval o).run Try.prog w = .ok (.value v) w') (h : wpList Try.prog ops Q rest (a.put o.dst v) w') : wpList Try.prog ops Q (o :: rest) a w := by
  refine wpList_plain hgd fun K hK => ?_
  unfold Oper.wp
  rw [hr]
  exact hK _ _ h

theorem blk_sets {t : TypeId} (b : Nat) : ∀ (vs : List Value) (o : Nat) (Z : Array Value) (w : World), Blk w b t Z → o + vs.length = Z.size → Blk (w.setCells b o vs) b t (Z.toList.take o ++ vs).toArray
  | [], o, Z, w, h, hz => by
    have : (Z.toList.take o ++ []).toArray = Z := by
      rw [List.append_nil, List.take_of_length_le (by simp at hz ⊢; omega)]
    rw [this]; exact h
  | v :: vs, o, Z, w, h, hz => by
    have ih := blk_sets b vs (o + 1) (Z.setIfInBounds o v) (w.setCell ⟨b, o, none⟩ v) (h.put o v) (by simp at hz ⊢; omega)
    have e : (Z.setIfInBounds o v).toList.take (o + 1) ++ vs = Z.toList.take o ++ v :: vs := by
      rw [Array.toList_setIfInBounds, List.take_add_one, List.take_set_of_le (by omega), List.getElem?_set_self (by simp at hz ⊢; omega)]
      simp
    rw [e] at ih
    exact ih
theorem setCells_size (b : Nat) : ∀ (vs : List Value) (o : Nat) (w : World), (w.setCells b o vs).heap.size = w.heap.size
  | [], _, _ => rfl
  | v :: vs, o, w => by
    have := setCells_size b vs (o + 1) (w.setCell ⟨b, o, none⟩ v)
    show ((w.setCell ⟨b, o, none⟩ v).setCells b (o + 1) vs).heap.size = _
    rw [this]; simp [World.setCell]

theorem zero_add (w : World) : ∃ Z : Array Value, Z.size = 36 ∧ ∀ (a : Act) (o : Oper), o.op = .alloc 32 → (execOp a.eval o).run Try.prog w = .ok (.value (.pointer (some ⟨w.heap.size, 0, none⟩))) (w.alloc (.cells Z 32)) := by
  refine ⟨#[.int .i64 0, .int .u64 0, .string ⟨#[]⟩, .slice none 0 0, .int .u8 0, .int .u8 0, .int .u8 0, .int .u8 0, .int .u8 0, .int .u8 0, .int .u8 0, .int .u8 0, .int .u8 0, .int .u8 0, .int .u8 0, .int .u8 0, .int .u8 0, .int .u8 0, .int .u8 0, .int .u8 0, .int .u8 0, .int .u8 0, .int .u8 0, .int .u8 0, .int .u8 0, .int .u8 0, .int .u8 0, .int .u8 0, .int .u8 0, .int .u8 0, .int .u8 0, .int .u8 0, .int .u8 0, .int .u8 0, .int .u8 0, .int .u8 0], rfl, fun a o ho => ?_⟩
  unfold execOp
  simp only [ho]
  kernel_rfl

/-- A new Add, and what is stored into it. -/
theorem wpList_laid {ops : Array Oper} {rest : List Oper} {o1 o2 : Oper} {a : Act} {Q : Exit → Act → World → Prop} (hg1 : o1.guard = none) (hg2 : o2.guard = none) (w : World) (y : Operand) (d : Nat) (h1 : o1.op = .alloc 32) (h2 : o2.op = .store 32 (.tmp d) y)
    (kind : Int) (N : Nat) (S : List UInt8) (A : Option Addr) (n c : Nat) (K : List UInt8) (hK : K.length = 32)
    (hx : (a.put o1.dst (.pointer (some ⟨w.heap.size, 0, none⟩))).eval (.tmp d) = .pointer (some ⟨w.heap.size, 0, none⟩)) (hy : (a.put o1.dst (.pointer (some ⟨w.heap.size, 0, none⟩))).eval y = .agg (addL kind N S A n c K).toArray)
    (h : ∀ w', Blk w' w.heap.size 32 (addL kind N S A n c K).toArray → Mod no w w' → w.heap.size < w'.heap.size → wpList Try.prog ops Q rest ((a.put o1.dst (.pointer (some ⟨w.heap.size, 0, none⟩))).put o2.dst undef) w') : wpList Try.prog ops Q (o1 :: o2 :: rest) a w := by
  obtain ⟨Z, hZ, hrun⟩ := zero_add w
  refine wpList_run hg1 _ (hrun a o1 h1) ?_
  have hbk := Blk.new w 32 Z
  have hL := addL_len kind N S A n c K hK
  have hth : (w.alloc (.cells Z 32)).there w.heap.size 0 (addL kind N S A n c K).toArray.size := fun j hj => ⟨by rw [hbk.cell]; rw [List.size_toArray] at hj; rw [Array.getElem?_eq_getElem (by omega)]; rfl, hbk.free _⟩
  refine wpList_store_mid hg2 32 _ y h2 w.heap.size 0 (addL kind N S A n c K).toArray hx hy hth (by rw [List.size_toArray]; exact add_info hL) (addL_one kind N S A n c K) ?_
  refine h _ ?_ ?_ ?_
  · have := blk_sets w.heap.size (addL kind N S A n c K) 0 Z _ hbk (by omega)
    simpa using this
  · exact mod_sets (S := no) (fun c => absurd c (Nat.lt_irrefl _)) _ _ _ ((Mod.refl no w).alloc _)
  · rw [setCells_size]; simp

/-- What again answers. -/
def AgainP (w : World) (kind : Int) (N : Nat) (B K : List UInt8) (e : Ending) (w' : World) : Prop :=
  ∃ g cap, e = .returned (addV kind N B (some ⟨g, 0, none⟩) B.length cap K) ∧ w.heap.size ≤ g ∧ Rds w' 1 (some ⟨g, 0, none⟩) B.length (bvs B) ∧ Mod no w w'

theorem addL_zero (kind : Int) (N : Nat) (S : List UInt8) (A : Option Addr) (n c : Nat) : (addL kind N S A n c (List.replicate 32 0)).toArray = #[.int .i64 kind, .int .u64 (N : Int), .string ⟨S.toArray⟩, .slice A n c, .int .u8 0, .int .u8 0, .int .u8 0, .int .u8 0, .int .u8 0, .int .u8 0, .int .u8 0, .int .u8 0, .int .u8 0, .int .u8 0, .int .u8 0, .int .u8 0, .int .u8 0, .int .u8 0, .int .u8 0, .int .u8 0, .int .u8 0, .int .u8 0, .int .u8 0, .int .u8 0, .int .u8 0, .int .u8 0, .int .u8 0, .int .u8 0, .int .u8 0, .int .u8 0, .int .u8 0, .int .u8 0, .int .u8 0, .int .u8 0, .int .u8 0, .int .u8 0] := by
  have hz : bvs (List.replicate 32 0) = List.replicate 32 (.int .u8 0) := by simp only [bvs, List.map_replicate]; rfl
  unfold addL
  rw [hz]
  rfl

set_option maxRecDepth 100000 in
set_option maxHeartbeats 4000000 in
theorem again_other {w : World} (kind : Int) (most : Nat) (n : Int) (N : Nat) (B : List UInt8) (h4 : kind ≠ 4) :
    Calls Try.prog 27 #[takeV kind most n, gotV N B] w fun e w' => AgainP w kind N B (List.replicate 32 0) e w' := by
  have b4 : (kind == 4) = false := by simpa using h4
  unfold takeV gotV
  go_enter Try.func27, Try.ntmps27
  go_wp2_with (first
   | (refine wpList_conv rfl (.tmp 14) rfl _ B rfl ?_
      intro cap w5 M5 hs5 R5
      have hbk : Blk w5 w.heap.size 69 #[.int .i64 kind, .int .u64 (most : Int), .int .i64 n] := (((Blk.new w _ _).alloc _).alloc _).mod M5 (fun c => c)
      have hbz : Blk w5 (w.heap.size + 1 + 1) 32 #[.int .i64 0, .int .u64 0, .string ⟨#[]⟩, .slice none 0 0, .int .u8 0, .int .u8 0, .int .u8 0, .int .u8 0, .int .u8 0, .int .u8 0, .int .u8 0, .int .u8 0, .int .u8 0, .int .u8 0, .int .u8 0, .int .u8 0, .int .u8 0, .int .u8 0, .int .u8 0, .int .u8 0, .int .u8 0, .int .u8 0, .int .u8 0, .int .u8 0, .int .u8 0, .int .u8 0, .int .u8 0, .int .u8 0, .int .u8 0, .int .u8 0, .int .u8 0, .int .u8 0, .int .u8 0, .int .u8 0, .int .u8 0, .int .u8 0] := (Blk.new_at _ _ _ (by simp)).mod M5 (fun c => c)
      have m5 : Mod no w w5 := ((((Mod.refl no w).alloc _).alloc _).alloc _).and_then M5
      simp only [World.size_alloc] at R5 hs5
      refine wpList_run rfl (w' := w5) (.agg (addL kind N B (some ⟨w.heap.size + 1 + 1 + 1, 0, none⟩) B.length cap (List.replicate 32 0)).toArray) (by rw [addL_zero]; unfold execOp; go_simp) ?_
      refine wpList_laid rfl rfl w5 (.tmp 16) 5 rfl rfl kind N B (some ⟨w.heap.size + 1 + 1 + 1, 0, none⟩) B.length cap (List.replicate 32 0) (by simp) rfl rfl ?_
      intro w6 hb6 M6 hs6
      have hbk6 := hbk.mod M6 (fun c => c)
      have k0 := hbk6.cell 0
      simp at k0
      have HM6 := Lib.hid (m5.and_then M6)
      have HR6 := Lib.hid (OP.rds_mod R5 M6)
      have HB6 := Lib.hid hb6
      have HBZ := Lib.hid (hbz.mod M6 (fun c => c))
      obtain ⟨LL, hLL⟩ : ∃ LL, LL = addL kind N B (some ⟨w.heap.size + 1 + 1 + 1, 0, none⟩) B.length cap (List.replicate 32 0) := ⟨_, rfl⟩
      have HLL := Lib.hid hLL
      rw [← hLL] at hb6
      have HLN := Lib.hid (show LL.length = 36 by rw [hLL]; exact addL_len _ _ _ _ _ _ _ (by simp))
      have HON := Lib.hid (show LL.toArray.all (·.oneCell') = true by rw [hLL]; exact addL_one _ _ _ _ _ _ _)
      have HRG := Lib.hid (show w6.rangeAt w5.heap.size 0 LL from fun j v hv => by rw [hb6.cell, Nat.zero_add, List.getElem?_toArray, hv])
      have hb9 := hbz.mod M6 (fun c => c)
      have HTH := Lib.hid (show w6.there (w.heap.size + 1 + 1) 0 LL.length from fun j hj => ⟨by rw [hb9.cell]; rw [Nat.zero_add, Array.getElem?_eq_getElem (by have := HLN.out; simp; omega)]; rfl, hb9.free _⟩)
      clear M5 m5 R5 hbk hbz hb6 M6 hLL hb9)
   | (refine wpList_load_mid rfl 32 (.tmp 5) rfl w5.heap.size 0 rfl LL _ HRG.out Try.underlying32 rfl (add_info HLN.out) ?_
      refine wpList_store_mid rfl 32 (.tmp 4) (.tmp 38) rfl (w.heap.size + 1 + 1) 0 LL.toArray rfl rfl HTH.out (by rw [List.size_toArray]; exact add_info HLN.out) HON.out ?_))
  have hm9 := HM6.out
  refine again_done w6 (w.heap.size + 1 + 1) LL HLN.out _ HTH.out rfl rfl _ Try.results27 _ ⟨w.heap.size + 1 + 1 + 1, cap, ?_, by omega, ?_, ?_⟩
  · rw [HLL.out]; rfl
  · exact EN.rds_mod HR6.out (mod_sets (S := one (w.heap.size + 1 + 1)) (fun _ => rfl) _ _ _ (Mod.refl _ _)) (fun _ ad e c => by injection e with e; subst e; simp only [one] at c; omega)
  · exact mod_sets (S := no) (fun c => absurd (show w.heap.size + 1 + 1 < w.heap.size from c) (by omega)) _ _ _ hm9

theorem addL_set (kind : Int) (N : Nat) (S : List UInt8) (A : Option Addr) (n c : Nat) (B : List UInt8) (j : Nat) (h : j < B.length) (h32 : B.length = 32) :
    (addL kind N S A n c (B.take j ++ List.replicate (32 - j) 0)).toArray.setIfInBounds (4 + j) (.int .u8 (B[j].toNat : Int)) = (addL kind N S A n c (B.take (j + 1) ++ List.replicate (32 - (j + 1)) 0)).toArray := by
  have hk := RD.kcells_set B j h h32
  unfold RD.kcells at hk
  rw [List.setIfInBounds_toArray] at hk
  have hk2 := congrArg Array.toList hk
  simp only at hk2
  rw [List.setIfInBounds_toArray]
  congr 1
  unfold addL
  rw [List.set_append_right _ _ (by simp), show 4 + j - ([Value.int .i64 kind, .int .u64 (N : Int), .string ⟨S.toArray⟩, .slice A n c] : List Value).length = j by simp, hk2]

def AgInv (w6 : World) (q : Nat) (kind : Int) (N : Nat) (B : List UInt8) (A : Option Addr) (c : Nat) (i : Value) (wr : World) : Prop :=
  ∃ j : Nat, j ≤ 32 ∧ i = .int .i64 (j : Int) ∧ Blk wr q 32 (addL kind N B A B.length c (B.take j ++ List.replicate (32 - j) 0)).toArray ∧ Mod (one q) w6 wr

set_option maxRecDepth 100000 in
set_option maxHeartbeats 4000000 in
theorem again_key {w : World} (most : Nat) (n : Int) (N : Nat) (B : List UInt8) (hB : B.length = 32) :
    Calls Try.prog 27 #[takeV 4 most n, gotV N B] w fun e w' => AgainP w 4 N B B e w' := by
  have HB := Lib.hid hB
  have e2 : ((ByteArray.mk B.toArray).size : Int) = 32 := by rw [show (ByteArray.mk B.toArray).size = B.length from rfl, hB]; rfl
  have e3 : (B.length : Int) = 32 := by rw [hB]; rfl
  clear hB
  unfold takeV gotV
  go_enter Try.func27, Try.ntmps27
  go_wp2_with (
      refine wpList_conv rfl (.tmp 14) rfl _ B rfl ?_
      intro cap w5 M5 hs5 R5
      have hbk : Blk w5 w.heap.size 69 #[.int .i64 4, .int .u64 (most : Int), .int .i64 n] := (((Blk.new w _ _).alloc _).alloc _).mod M5 (fun c => c)
      have hbg : Blk w5 (w.heap.size + 1) 66 #[.int .u64 (N : Int), .string ⟨B.toArray⟩] := ((Blk.new_at (n := w.heap.size + 1) (w.alloc _) _ _ (by simp)).alloc _).mod M5 (fun c => c)
      have hbz : Blk w5 (w.heap.size + 1 + 1) 32 #[.int .i64 0, .int .u64 0, .string ⟨#[]⟩, .slice none 0 0, .int .u8 0, .int .u8 0, .int .u8 0, .int .u8 0, .int .u8 0, .int .u8 0, .int .u8 0, .int .u8 0, .int .u8 0, .int .u8 0, .int .u8 0, .int .u8 0, .int .u8 0, .int .u8 0, .int .u8 0, .int .u8 0, .int .u8 0, .int .u8 0, .int .u8 0, .int .u8 0, .int .u8 0, .int .u8 0, .int .u8 0, .int .u8 0, .int .u8 0, .int .u8 0, .int .u8 0, .int .u8 0, .int .u8 0, .int .u8 0, .int .u8 0, .int .u8 0] := (Blk.new_at _ _ _ (by simp)).mod M5 (fun c => c)
      have m5 : Mod no w w5 := ((((Mod.refl no w).alloc _).alloc _).alloc _).and_then M5
      simp only [World.size_alloc] at R5 hs5
      refine wpList_run rfl (w' := w5) (.agg (addL 4 N B (some ⟨w.heap.size + 1 + 1 + 1, 0, none⟩) B.length cap (List.replicate 32 0)).toArray) (by rw [addL_zero]; unfold execOp; go_simp) ?_
      refine wpList_laid rfl rfl w5 (.tmp 16) 5 rfl rfl 4 N B (some ⟨w.heap.size + 1 + 1 + 1, 0, none⟩) B.length cap (List.replicate 32 0) (by simp) rfl rfl ?_
      intro w6 hb6 M6 hs6
      have hbk6 := hbk.mod M6 (fun c => c)
      have k0 := hbk6.cell 0
      simp at k0
      have HM6 := Lib.hid (m5.and_then M6)
      have HR6 := Lib.hid (OP.rds_mod R5 M6)
      have HB6 := Lib.hid hb6
      have HBG := Lib.hid (hbg.mod M6 (fun c => c))
      have HBZ := Lib.hid (hbz.mod M6 (fun c => c))
      clear M5 m5 R5 hbk hbg hbz hb6 M6)
  go_loopw [6] (AgInv w6 w5.heap.size 4 N B (some ⟨w.heap.size + 1 + 1 + 1, 0, none⟩) cap) (fun i _ => 32 - (intOf i).toNat)
  case atStart => exact ⟨0, Nat.zero_le _, rfl, by simpa using HB6.out, Mod.refl _ _⟩
  case round =>
    obtain ⟨j, hj, rfl, hb, M⟩ := hrel
    have hg := HBG.out.mod M (fun c => by simp only [one] at c; omega)
    have g1 := hg.cell 1
    simp at g1
    by_cases hlt : j < 32
    · have hjl : j < B.length := by rw [HB.out]; exact hlt
      have hcell := hb.cell (4 + j)
      have hfree := hb.free (4 + j)
      have hsz : (addL 4 N B (some ⟨w.heap.size + 1 + 1 + 1, 0, none⟩) B.length cap (B.take j ++ List.replicate (32 - j) 0)).toArray.size = 36 := by
        rw [List.size_toArray]; exact addL_len _ _ _ _ _ _ _ (by simp; omega)
      rw [Array.getElem?_eq_getElem (by omega)] at hcell
      have HS := Lib.hid (addL_set 4 N B (some ⟨w.heap.size + 1 + 1 + 1, 0, none⟩) B.length cap B j hjl HB.out)
      obtain ⟨v0, hv0⟩ : ∃ v0, wr.cell? ⟨w5.heap.size, 4 + j, none⟩ = some v0 := ⟨_, hcell⟩
      have HBB := Lib.hid hb
      have HM := Lib.hid M
      have HJ := Lib.hid (And.intro hlt hjl)
      clear hcell hsz hb M hg
      go_wp2_with fail
      refine ⟨⟨j + 1, hlt, by go_num, ?_, HM.out.set (p := ⟨w5.heap.size, 4 + j, none⟩) (fun _ => rfl) _⟩, ?_⟩
      · have h1 := HBB.out.put (4 + j) (.int .u8 ((B[j]'hjl).toNat : Int))
        rw [HS.out] at h1
        exact h1
      · simp [intOf]; omega
    · obtain rfl : j = 32 := by omega
      have hK : B.take 32 ++ List.replicate (32 - 32) 0 = B := by rw [List.take_of_length_le (by rw [HB.out]; exact Nat.le_refl _)]; simp
      rw [hK] at hb
      obtain ⟨LL, hLL⟩ : ∃ LL, LL = addL 4 N B (some ⟨w.heap.size + 1 + 1 + 1, 0, none⟩) B.length cap B := ⟨_, rfl⟩
      have HLL := Lib.hid hLL
      rw [← hLL] at hb
      have HLN := Lib.hid (show LL.length = 36 by rw [hLL]; exact addL_len _ _ _ _ _ _ _ HB.out)
      have HON := Lib.hid (show LL.toArray.all (·.oneCell') = true by rw [hLL]; exact addL_one _ _ _ _ _ _ _)
      have HRG := Lib.hid (show wr.rangeAt w5.heap.size 0 LL from fun j v hv => by rw [hb.cell, Nat.zero_add, List.getElem?_toArray, hv])
      have hb9 := HBZ.out.mod M (fun c => by simp only [one] at c; omega)
      have HTH := Lib.hid (show wr.there (w.heap.size + 1 + 1) 0 LL.length from fun j hj => ⟨by rw [hb9.cell]; rw [Nat.zero_add, Array.getElem?_eq_getElem (by have := HLN.out; simp; omega)]; rfl, hb9.free _⟩)
      have hm9 : Mod no w wr := HM6.out.trans M (fun k hk c => by simp only [one] at c; omega)
      have HM9 := Lib.hid hm9
      have HR9 := Lib.hid (EN.rds_mod HR6.out M (fun _ ad e c => by injection e with e; subst e; simp only [one] at c; omega))
      clear hb hb9 hm9 M hK hLL
      go_wp2_with (
        refine wpList_load_mid rfl 32 (.tmp 5) rfl w5.heap.size 0 rfl LL _ HRG.out Try.underlying32 rfl (add_info HLN.out) ?_
        refine wpList_store_mid rfl 32 (.tmp 4) (.tmp 38) rfl (w.heap.size + 1 + 1) 0 LL.toArray rfl rfl HTH.out (by rw [List.size_toArray]; exact add_info HLN.out) HON.out ?_)
      refine again_done wr (w.heap.size + 1 + 1) LL HLN.out _ HTH.out rfl rfl _ Try.results27 _ ⟨w.heap.size + 1 + 1 + 1, cap, ?_, by omega, ?_, ?_⟩
      · rw [HLL.out]; rfl
      · exact EN.rds_mod HR9.out (mod_sets (S := one (w.heap.size + 1 + 1)) (fun _ => rfl) _ _ _ (Mod.refl _ _)) (fun _ ad e c => by injection e with e; subst e; simp only [one] at c; omega)
      · exact mod_sets (S := no) (fun c => absurd (show w.heap.size + 1 + 1 < w.heap.size from c) (by omega)) _ _ _ HM9.out

theorem again_any {w : World} (kind : Int) (most : Nat) (n : Int) (N : Nat) (B : List UInt8) (hB : kind = 4 → B.length = 32) :
    Calls Try.prog 27 #[takeV kind most n, gotV N B] w fun e w' => AgainP w kind N B (againK kind B) e w' := by
  by_cases h4 : kind = 4
  · have e : againK kind B = B := by unfold againK; rw [if_pos h4]
    rw [e]
    have hb := hB h4
    subst h4
    exact again_key most n N B hb
  · have e : againK kind B = List.replicate 32 0 := by unfold againK; rw [if_neg h4]
    rw [e]
    exact again_other kind most n N B h4

end Go.Proofs.Ytpfkcejndjnbhaa.ON
