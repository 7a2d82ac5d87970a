/- The law ArenaNil: the walk (printed by arenanil5.py). -/
import Derived.Test.YtkfcpnijhgaejaaAnF
import Derived.Laws.StructEq
namespace Go.Proofs.Ytkfcpnijhgaejaa.AN
open Go.RowKit Mem
set_option linter.unusedVariables false
set_option linter.unusedSimpArgs false

theorem wpList_load_midG {ops : Array Oper} {rest : List Oper} {op : Oper} {a : Act} {w : World} {Q : Exit → Act → World → Prop} (hgd : Region.wanted op (yielded ops a.tmps) = true) (ty : TypeId) (x : Operand) (ho : op.op = .load ty x)
    (b o : Nat) (hx : a.eval x = .pointer (some ⟨b, o, none⟩)) (cs : List Value) (d : TypeDesc) (hc : w.rangeAt b o cs)
    (hu : Try.prog.underlying ty = some d) (hd : d.isRow = true) (hi : (Try.prog.info? ty).map (·.size) = some cs.length)
    (h : wpList Try.prog ops Q rest (a.put op.dst (.agg cs.toArray)) w) : wpList Try.prog ops Q (op :: rest) a w :=
  wpList_step fun K hK => by
    rw [if_pos hgd]
    exact wp_load_mid ty x ho b o hx cs d hc hu hd hi (hK _ _ h)
theorem op_yield {a : Act} {o : Oper} {w w' : World} {v : Value} {K : Act → World → Prop} {Q : Exit → Act → World → Prop} (h : (execOp a.eval o).run Try.prog w = .ok (.value v) w') (hK : K (a.put o.dst v) w') : Oper.wp Try.prog o a w K Q := by
  unfold Oper.wp
  rw [h]
  exact hK
theorem ans_guard : Try.prog.eqGuardType Try.prog.depth 37 = false := by kernel_rfl
theorem ans_neq0 (w : World) : (binOp .neq 37 (.agg (ansE 0).toArray) (.agg (ansE 0).toArray)).run Try.prog w = .ok (.bool false) w := by kernel_rfl
theorem ans_neq1 (w : World) : (binOp .neq 37 (.agg (ansE 1).toArray) (.agg (ansE 1).toArray)).run Try.prog w = .ok (.bool false) w := by kernel_rfl
theorem y_neqA {a : Act} {o : Oper} {w : World} {x y : Operand} {e : Int} (he : e = 0 ∨ e = 1) (ho : o.op = .binOp .neq 37 x y 37) (hx : a.eval x = .agg (ansE e).toArray) (hy : a.eval y = .agg (ansE e).toArray) : (execOp a.eval o).run Try.prog w = .ok (.value (.bool false)) w := by
  have hn : (binOp .neq 37 (.agg (ansE e).toArray) (.agg (ansE e).toArray)).run Try.prog w = .ok (.bool false) w := by
    rcases he with rfl | rfl
    · exact ans_neq0 w
    · exact ans_neq1 w
  generalize a.eval = ev at hx hy
  unfold execOp
  simp only [ho, hx, hy, Sem.run_bind, run_eqGuard_agg (P := Try.prog) w .neq 37 x y _ _ ans_guard, Result.andThen_ok, hn, Sem.run_pure]
theorem wpList_neqA {ops : Array Oper} {rest : List Oper} {o : Oper} {a : Act} {w : World} {Q : Exit → Act → World → Prop} (hgd : Region.wanted o (yielded ops a.tmps) = true) (x y : Operand) (ho : o.op = .binOp .neq 37 x y 37) (e : Int) (he : e = 0 ∨ e = 1) (hx : a.eval x = .agg (ansE e).toArray) (hy : a.eval y = .agg (ansE e).toArray)
    (h : wpList Try.prog ops Q rest (a.put o.dst (.bool false)) w) : wpList Try.prog ops Q (o :: rest) a w :=
  wpList_step fun K hK => by
    rw [if_pos hgd]
    exact op_yield (y_neqA he ho hx hy) (hK _ _ h)
theorem step_info {x : List Value} (h : x.length = 6) : (Try.prog.info? 34).map (·.size) = some x.length := by rw [h]; kernel_rfl
/-- The steps, wherever they lie. -/
def SSrc (w : World) (A0 : Option Addr) (n : Nat) : Prop := 0 < n → ∃ b o, A0 = some ⟨b, o, none⟩ ∧ b < w.heap.size ∧ ∀ k : Nat, k < n → ∃ (kd p q nn : Int) (A : Option Addr) (l : List UInt8) (c : Nat) (lv : Bool), w.rangeAt b (o + k * 6) [.int .i64 kd, .int .i64 p, .int .i64 q, .int .i64 nn, .slice A l.length c, .bool lv] ∧ RdC w A l ∧ l.length ≤ 1048576
theorem var_at {w : World} {b : Nat} {t : TypeId} {x : List Value} (h : Blk w b t x.toArray) : w.rangeAt b 0 x := fun j u hu => by rw [h.cell, Nat.zero_add, List.getElem?_toArray]; exact hu
theorem var_set {w : World} {b : Nat} {t : TypeId} {x y : List Value} (h : Blk w b t x.toArray) (hl : y.length = x.length) : w.there b 0 y.toArray.size ∧ Blk (w.setCells b 0 y) b t y.toArray ∧ Mod (one b) w (w.setCells b 0 y) := by
  refine ⟨fun j hj => ⟨by rw [h.cell, Array.getElem?_eq_getElem (by simp at hj ⊢; omega)]; rfl, h.free _⟩, ?_, mod_setCells (S := one b) (show one b b from rfl) y 0 _ (Mod.refl _ _)⟩
  have hp := blk_sets b y 0 x w h (by omega)
  rw [List.take_zero, List.nil_append, List.drop_eq_nil_of_le (by omega), List.append_nil] at hp
  exact hp
theorem ans_one (e : Int) : (ansE e).toArray.all (·.oneCell') = true := by simp [ansE, Value.oneCell']
def LI (W : World) (n z : Nat) (i : Value) (wr : World) : Prop := ∃ k : Nat, k ≤ n ∧ i = .int .i64 (k : Int) ∧ Mod no W wr ∧ Blk wr z 29 #[.int .i64 0, .int .i64 0, .slice none 0 0, .map none, .map none]
/-- A variable that is new, and laid. -/
theorem new_set {w : World} {t : TypeId} {x y : List Value} (hl : y.length = x.length) : (w.alloc (.cells x.toArray t)).there w.heap.size 0 y.toArray.size ∧ Blk ((w.alloc (.cells x.toArray t)).setCells w.heap.size 0 y) w.heap.size t y.toArray ∧ Mod no w ((w.alloc (.cells x.toArray t)).setCells w.heap.size 0 y) := by
  obtain ⟨h1, h2, h3⟩ := var_set (Blk.new w t x.toArray) hl
  exact ⟨h1, h2, ((Mod.refl no w).alloc _).trans h3 fun b hb c => by have c : b = w.heap.size := c; omega⟩

set_option maxRecDepth 100000 in
set_option maxHeartbeats 16000000 in
theorem nil_law {W : World} {A0 : Option Addr} {n c0 : Nat} (hS : SSrc W A0 n) (hn : n ≤ 1048576) :
    Calls Try.prog 3 #[.slice A0 n c0] W fun e w' => e = .returned (.bool true) ∧ Mod no W w' := by
  have HS := Lib.hid (And.intro hS hn)
  clear hS
  by_cases hf : n ≤ 4096
  · have hn1 : ¬ (n : Int) > 4096 := by omega
    have hn2 : ¬ (4096 : Int) < (n : Int) := by omega
    clear hn
    go_enter Try.func3, Try.ntmps3
    go_wp2_with fail
    obtain ⟨z, hz⟩ : ∃ z, z = W.heap.size := ⟨_, rfl⟩
    have HZ := Lib.hid hz
    rw [← hz]
    have H0 := Lib.hid (And.intro (show Blk (W.alloc (.cells #[.int .i64 0, .int .i64 0, .slice none 0 0, .map none, .map none] 29)) z 29 #[.int .i64 0, .int .i64 0, .slice none 0 0, .map none, .map none] by rw [hz]; exact Blk.new W 29 #[.int .i64 0, .int .i64 0, .slice none 0 0, .map none, .map none]) ((Mod.refl no W).alloc (.cells #[.int .i64 0, .int .i64 0, .slice none 0 0, .map none, .map none] 29)))
    clear hz
    generalize W.alloc (.cells #[.int .i64 0, .int .i64 0, .slice none 0 0, .map none, .map none] 29) = w1 at *
    go_loopw [5, 6, 7, 8, 9, 10, 11] (fun (i u6 u7 u8 u9 u10 u11 : Value) (wr : World) => LI W n z i wr) (fun i _ _ _ _ _ _ _ => n - (intOf i).toNat)
    case atStart => exact ⟨0, Nat.zero_le _, rfl, H0.out.2, H0.out.1⟩
    case round =>
      clear H0
      obtain ⟨k, hk, rfl, M, hz⟩ := hrel
      by_cases hkn : k < n
      · obtain ⟨b0, o0, rfl, hb0, hel⟩ := HS.out.1 (by omega)
        obtain ⟨kd, p, q, nn, A, l, c, lv, hrg, hrd, hll⟩ := hel k hkn
        have hj1 : (k : Int) < (n : Int) := by omega
        have hj0 : (0 : Int) ≤ (k : Int) := by omega
        have hw64 : wrap64 ((k : Int) + 1) = (k : Int) + 1 := IntWalk.wrap64_in _ (by omega)
        obtain ⟨m, hm⟩ : ∃ m : List Value, m = [.int .i64 kd, .int .i64 p, .int .i64 q, .int .i64 nn, .slice A l.length c, .bool lv] := ⟨_, rfl⟩
        rw [← hm] at hrg
        have hml : m.length = 6 := by rw [hm]; rfl
        have hmo : m.toArray.all (·.oneCell') = true := by rw [hm]; simp [Value.oneCell']
        have hmk : m[0]? = some (.int .i64 kd) := by rw [hm]; rfl
        have hrg' : wr.rangeAt b0 (o0 + k * 6) m := fun j u hu => by rw [M.cell hb0 (fun c => c)]; exact hrg j u hu
        obtain ⟨s1, s2, s3⟩ := new_set (w := wr) (t := 34) (x := [.int .i64 0, .int .i64 0, .int .i64 0, .int .i64 0, .slice none 0 0, .bool false]) (y := m) hml
        have HB := Lib.hid (And.intro hrg' (And.intro s1 (And.intro hml (And.intro hmo (And.intro hm (And.intro hrd hll))))))
        have H5 := Lib.hid (And.intro s2 (And.intro (M.and_then s3) (hz.mod s3 (fun c => c))))
        have HJ := Lib.hid (show k + 1 ≤ n ∧ k < n by omega)
        clear hk hkn M hz hel hrg hm hml hmo hrg' s1 s2 s3 hrd hll hb0
        have hkn := HJ.out.2
        by_cases h1 : kd = 1
        · subst h1
          go_wp2_with (first
            | (refine wpList_load_mid rfl 34 (.tmp 27) rfl b0 (o0 + k * 6) rfl m _ HB.out.1 Try.underlying34 rfl (step_info HB.out.2.2.1) ?_)
            | (refine wpList_store_mid rfl 34 (.tmp 6) (.tmp 28) rfl wr.heap.size 0 m.toArray rfl rfl HB.out.2.1 (by rw [List.size_toArray]; exact step_info HB.out.2.2.1) HB.out.2.2.2.1 ?_
               simp only [List.toList_toArray]
               generalize (wr.alloc (.cells #[.int .i64 0, .int .i64 0, .int .i64 0, .int .i64 0, .slice none 0 0, .bool false] 34)).setCells wr.heap.size 0 m = w5 at *
               have hq1 : Mod no w5 (w5.alloc (.cells #[.int .i64 1, .int .i64 0, .int .i64 0, .string ⟨#[]⟩, .int .i64 0, .int .i64 0, .string ⟨#[]⟩] 37)) := (Mod.refl no w5).alloc _
               have hq2 : Blk (w5.alloc (.cells #[.int .i64 1, .int .i64 0, .int .i64 0, .string ⟨#[]⟩, .int .i64 0, .int .i64 0, .string ⟨#[]⟩] 37)) w5.heap.size 37 (ansE 1).toArray := Blk.new w5 37 #[.int .i64 1, .int .i64 0, .int .i64 0, .string ⟨#[]⟩, .int .i64 0, .int .i64 0, .string ⟨#[]⟩]
               have hx5 := H5.out.1.lt
               have H6 := Lib.hid (And.intro (H5.out.1.mod hq1 (fun c => c)) (And.intro hq2 (And.intro (H5.out.2.1.and_then hq1) (H5.out.2.2.mod hq1 (fun c => c)))))
               have ck : (w5.alloc (.cells #[.int .i64 1, .int .i64 0, .int .i64 0, .string ⟨#[]⟩, .int .i64 0, .int .i64 0, .string ⟨#[]⟩] 37)).cell? ⟨wr.heap.size, 0, none⟩ = some (.int .i64 1) := by rw [(H5.out.1.mod hq1 (fun c => c)).cell, List.getElem?_toArray]; exact hmk
               have cw : (w5.alloc (.cells #[.int .i64 1, .int .i64 0, .int .i64 0, .string ⟨#[]⟩, .int .i64 0, .int .i64 0, .string ⟨#[]⟩] 37)).cell? ⟨w5.heap.size, 0, none⟩ = some (.int .i64 1) := by rw [hq2.cell]; rfl
               have fw := hq2.free 0
               clear hq1 hq2)
            | (refine wpList_load_mid rfl 34 (.tmp 6) rfl wr.heap.size 0 rfl m _ (var_at H6.out.1) Try.underlying34 rfl (step_info HB.out.2.2.1) ?_))
          clear ck cw fw
          generalize (w5.alloc (.cells #[.int .i64 1, .int .i64 0, .int .i64 0, .string ⟨#[]⟩, .int .i64 0, .int .i64 0, .string ⟨#[]⟩] 37)) = w6 at *
          rw [HB.out.2.2.2.2.1]
          have HC1 := Lib.hid (asked_n (kd := 1) (p := p) (q := q) (n := nn) (lv := lv) (c := c) (show Base w6 (.pointer none) A l from ⟨HB.out.2.2.2.2.2.1.mod_no H6.out.2.2.1, .inl rfl⟩) HB.out.2.2.2.2.2.2)
          refine HC1.out.mono ?_
          rintro r w7 ⟨rfl, m7⟩
          rw [show errN 1 = 1 from by decide, ← HB.out.2.2.2.2.1]
          obtain ⟨t1, t2, t3⟩ : (w7.alloc (.cells #[.int .i64 0, .int .i64 0, .int .i64 0, .string ⟨#[]⟩, .int .i64 0, .int .i64 0, .string ⟨#[]⟩] 37)).there w7.heap.size 0 (ansE 1).toArray.size ∧ Blk ((w7.alloc (.cells #[.int .i64 0, .int .i64 0, .int .i64 0, .string ⟨#[]⟩, .int .i64 0, .int .i64 0, .string ⟨#[]⟩] 37)).setCells w7.heap.size 0 (ansE 1)) w7.heap.size 37 (ansE 1).toArray ∧ Mod no w7 ((w7.alloc (.cells #[.int .i64 0, .int .i64 0, .int .i64 0, .string ⟨#[]⟩, .int .i64 0, .int .i64 0, .string ⟨#[]⟩] 37)).setCells w7.heap.size 0 (ansE 1)) := new_set (w := w7) (t := 37) (x := ansE 0) (y := ansE 1) rfl
          have mm8 := m7.and_then t3
          have H8 := Lib.hid (And.intro (H6.out.1.mod mm8 (fun c => c)) (And.intro (H6.out.2.1.mod mm8 (fun c => c)) (And.intro (H6.out.2.2.1.and_then mm8) (And.intro (H6.out.2.2.2.mod mm8 (fun c => c)) t2))))
          have HT := Lib.hid t1
          clear m7 mm8 t1 t2 t3 HC1 H6
          go_wp2_with (first
            | (refine wpList_store_mid rfl 37 (.tmp 8) (.tmp 47) rfl w7.heap.size 0 (ansE 1).toArray rfl rfl HT.out (by rw [List.size_toArray]; exact ans_info rfl) (ans_one _) ?_
               simp only [List.toList_toArray]
               clear HT
               generalize (w7.alloc (.cells #[.int .i64 0, .int .i64 0, .int .i64 0, .string ⟨#[]⟩, .int .i64 0, .int .i64 0, .string ⟨#[]⟩] 37)).setCells w7.heap.size 0 (ansE 1) = w8 at *
               have H9 := Lib.hid H8.out
               clear H8)
            | (refine wpList_load_mid rfl 34 (.tmp 6) rfl wr.heap.size 0 rfl m _ (var_at H9.out.1) Try.underlying34 rfl (step_info HB.out.2.2.1) ?_))
          rw [HB.out.2.2.2.2.1]
          have HC2 := Lib.hid (asked_n (kd := 1) (p := p) (q := q) (n := nn) (lv := lv) (c := c) (show Base w8 (.pointer (some ⟨z, 0, none⟩)) A l from ⟨HB.out.2.2.2.2.2.1.mod_no H9.out.2.2.1, .inr ⟨z, rfl, H9.out.2.2.2.1⟩⟩) HB.out.2.2.2.2.2.2)
          refine HC2.out.mono ?_
          rintro r w9 ⟨rfl, m9⟩
          rw [show errN 1 = 1 from by decide, ← HB.out.2.2.2.2.1]
          obtain ⟨t1, t2, t3⟩ : (w9.alloc (.cells #[.int .i64 0, .int .i64 0, .int .i64 0, .string ⟨#[]⟩, .int .i64 0, .int .i64 0, .string ⟨#[]⟩] 37)).there w9.heap.size 0 (ansE 1).toArray.size ∧ Blk ((w9.alloc (.cells #[.int .i64 0, .int .i64 0, .int .i64 0, .string ⟨#[]⟩, .int .i64 0, .int .i64 0, .string ⟨#[]⟩] 37)).setCells w9.heap.size 0 (ansE 1)) w9.heap.size 37 (ansE 1).toArray ∧ Mod no w9 ((w9.alloc (.cells #[.int .i64 0, .int .i64 0, .int .i64 0, .string ⟨#[]⟩, .int .i64 0, .int .i64 0, .string ⟨#[]⟩] 37)).setCells w9.heap.size 0 (ansE 1)) := new_set (w := w9) (t := 37) (x := ansE 0) (y := ansE 1) rfl
          have mm := m9.and_then t3
          have H10 := Lib.hid (And.intro (H9.out.2.1.mod mm (fun c => c)) (And.intro (H9.out.2.2.1.and_then mm) (And.intro (H9.out.2.2.2.1.mod mm (fun c => c)) (And.intro (H9.out.2.2.2.2.mod mm (fun c => c)) t2))))
          have HT := Lib.hid t1
          clear m9 mm t1 t2 t3 HC2 H9
          go_wp2_with (first
            | (refine wpList_store_mid rfl 37 (.tmp 10) (.tmp 53) rfl w9.heap.size 0 (ansE 1).toArray rfl rfl HT.out (by rw [List.size_toArray]; exact ans_info rfl) (ans_one _) ?_
               simp only [List.toList_toArray]
               clear HT
               generalize (w9.alloc (.cells #[.int .i64 0, .int .i64 0, .int .i64 0, .string ⟨#[]⟩, .int .i64 0, .int .i64 0, .string ⟨#[]⟩] 37)).setCells w9.heap.size 0 (ansE 1) = w10 at *
               have H11 := Lib.hid H10.out
               clear H10)
            | (refine wpList_load_midG rfl 37 (.tmp 8) rfl w7.heap.size 0 rfl (ansE 1) _ (var_at H11.out.2.2.2.1) Try.underlying37 rfl (ans_info rfl) ?_)
            | (refine wpList_load_midG rfl 37 (.tmp 7) rfl w5.heap.size 0 rfl (ansE 1) _ (var_at H11.out.1) Try.underlying37 rfl (ans_info rfl) ?_)
            | (refine wpList_load_midG rfl 37 (.tmp 10) rfl w9.heap.size 0 rfl (ansE 1) _ (var_at H11.out.2.2.2.2) Try.underlying37 rfl (ans_info rfl) ?_)
            | (refine wpList_neqA rfl (.tmp 62) (.tmp 63) rfl 1 (by decide) rfl rfl ?_)
            | (refine wpList_neqA rfl (.tmp 67) (.tmp 68) rfl 1 (by decide) rfl rfl ?_))
          go_roundw
          case rel => exact ⟨k + 1, HJ.out.1, by go_num, H11.out.2.1, H11.out.2.2.1⟩
          case measure =>
            try rw [hw64]
            clear hw64
            have := HJ.out.1
            show n - ((k : Int) + 1).toNat < n - ((k : Int)).toNat
            omega
        by_cases h2 : kd = 2
        · subst h2
          go_wp2_with (first
            | (refine wpList_load_mid rfl 34 (.tmp 27) rfl b0 (o0 + k * 6) rfl m _ HB.out.1 Try.underlying34 rfl (step_info HB.out.2.2.1) ?_)
            | (refine wpList_store_mid rfl 34 (.tmp 6) (.tmp 28) rfl wr.heap.size 0 m.toArray rfl rfl HB.out.2.1 (by rw [List.size_toArray]; exact step_info HB.out.2.2.1) HB.out.2.2.2.1 ?_
               simp only [List.toList_toArray]
               generalize (wr.alloc (.cells #[.int .i64 0, .int .i64 0, .int .i64 0, .int .i64 0, .slice none 0 0, .bool false] 34)).setCells wr.heap.size 0 m = w5 at *
               have hq1 : Mod no w5 (w5.alloc (.cells #[.int .i64 1, .int .i64 0, .int .i64 0, .string ⟨#[]⟩, .int .i64 0, .int .i64 0, .string ⟨#[]⟩] 37)) := (Mod.refl no w5).alloc _
               have hq2 : Blk (w5.alloc (.cells #[.int .i64 1, .int .i64 0, .int .i64 0, .string ⟨#[]⟩, .int .i64 0, .int .i64 0, .string ⟨#[]⟩] 37)) w5.heap.size 37 (ansE 1).toArray := Blk.new w5 37 #[.int .i64 1, .int .i64 0, .int .i64 0, .string ⟨#[]⟩, .int .i64 0, .int .i64 0, .string ⟨#[]⟩]
               have hx5 := H5.out.1.lt
               have H6 := Lib.hid (And.intro (H5.out.1.mod hq1 (fun c => c)) (And.intro hq2 (And.intro (H5.out.2.1.and_then hq1) (H5.out.2.2.mod hq1 (fun c => c)))))
               have ck : (w5.alloc (.cells #[.int .i64 1, .int .i64 0, .int .i64 0, .string ⟨#[]⟩, .int .i64 0, .int .i64 0, .string ⟨#[]⟩] 37)).cell? ⟨wr.heap.size, 0, none⟩ = some (.int .i64 2) := by rw [(H5.out.1.mod hq1 (fun c => c)).cell, List.getElem?_toArray]; exact hmk
               have cw : (w5.alloc (.cells #[.int .i64 1, .int .i64 0, .int .i64 0, .string ⟨#[]⟩, .int .i64 0, .int .i64 0, .string ⟨#[]⟩] 37)).cell? ⟨w5.heap.size, 0, none⟩ = some (.int .i64 1) := by rw [hq2.cell]; rfl
               have fw := hq2.free 0
               clear hq1 hq2)
            | (refine wpList_load_mid rfl 34 (.tmp 6) rfl wr.heap.size 0 rfl m _ (var_at H6.out.1) Try.underlying34 rfl (step_info HB.out.2.2.1) ?_))
          clear ck cw fw
          generalize (w5.alloc (.cells #[.int .i64 1, .int .i64 0, .int .i64 0, .string ⟨#[]⟩, .int .i64 0, .int .i64 0, .string ⟨#[]⟩] 37)) = w6 at *
          rw [HB.out.2.2.2.2.1]
          have HC1 := Lib.hid (asked_n (kd := 2) (p := p) (q := q) (n := nn) (lv := lv) (c := c) (show Base w6 (.pointer none) A l from ⟨HB.out.2.2.2.2.2.1.mod_no H6.out.2.2.1, .inl rfl⟩) HB.out.2.2.2.2.2.2)
          refine HC1.out.mono ?_
          rintro r w7 ⟨rfl, m7⟩
          rw [show errN 2 = 1 from by decide, ← HB.out.2.2.2.2.1]
          obtain ⟨t1, t2, t3⟩ : (w7.alloc (.cells #[.int .i64 0, .int .i64 0, .int .i64 0, .string ⟨#[]⟩, .int .i64 0, .int .i64 0, .string ⟨#[]⟩] 37)).there w7.heap.size 0 (ansE 1).toArray.size ∧ Blk ((w7.alloc (.cells #[.int .i64 0, .int .i64 0, .int .i64 0, .string ⟨#[]⟩, .int .i64 0, .int .i64 0, .string ⟨#[]⟩] 37)).setCells w7.heap.size 0 (ansE 1)) w7.heap.size 37 (ansE 1).toArray ∧ Mod no w7 ((w7.alloc (.cells #[.int .i64 0, .int .i64 0, .int .i64 0, .string ⟨#[]⟩, .int .i64 0, .int .i64 0, .string ⟨#[]⟩] 37)).setCells w7.heap.size 0 (ansE 1)) := new_set (w := w7) (t := 37) (x := ansE 0) (y := ansE 1) rfl
          have mm8 := m7.and_then t3
          have H8 := Lib.hid (And.intro (H6.out.1.mod mm8 (fun c => c)) (And.intro (H6.out.2.1.mod mm8 (fun c => c)) (And.intro (H6.out.2.2.1.and_then mm8) (And.intro (H6.out.2.2.2.mod mm8 (fun c => c)) t2))))
          have HT := Lib.hid t1
          clear m7 mm8 t1 t2 t3 HC1 H6
          go_wp2_with (first
            | (refine wpList_store_mid rfl 37 (.tmp 8) (.tmp 47) rfl w7.heap.size 0 (ansE 1).toArray rfl rfl HT.out (by rw [List.size_toArray]; exact ans_info rfl) (ans_one _) ?_
               simp only [List.toList_toArray]
               clear HT
               generalize (w7.alloc (.cells #[.int .i64 0, .int .i64 0, .int .i64 0, .string ⟨#[]⟩, .int .i64 0, .int .i64 0, .string ⟨#[]⟩] 37)).setCells w7.heap.size 0 (ansE 1) = w8 at *
               have H9 := Lib.hid H8.out
               clear H8)
            | (refine wpList_load_mid rfl 34 (.tmp 6) rfl wr.heap.size 0 rfl m _ (var_at H9.out.1) Try.underlying34 rfl (step_info HB.out.2.2.1) ?_))
          rw [HB.out.2.2.2.2.1]
          have HC2 := Lib.hid (asked_n (kd := 2) (p := p) (q := q) (n := nn) (lv := lv) (c := c) (show Base w8 (.pointer (some ⟨z, 0, none⟩)) A l from ⟨HB.out.2.2.2.2.2.1.mod_no H9.out.2.2.1, .inr ⟨z, rfl, H9.out.2.2.2.1⟩⟩) HB.out.2.2.2.2.2.2)
          refine HC2.out.mono ?_
          rintro r w9 ⟨rfl, m9⟩
          rw [show errN 2 = 1 from by decide, ← HB.out.2.2.2.2.1]
          obtain ⟨t1, t2, t3⟩ : (w9.alloc (.cells #[.int .i64 0, .int .i64 0, .int .i64 0, .string ⟨#[]⟩, .int .i64 0, .int .i64 0, .string ⟨#[]⟩] 37)).there w9.heap.size 0 (ansE 1).toArray.size ∧ Blk ((w9.alloc (.cells #[.int .i64 0, .int .i64 0, .int .i64 0, .string ⟨#[]⟩, .int .i64 0, .int .i64 0, .string ⟨#[]⟩] 37)).setCells w9.heap.size 0 (ansE 1)) w9.heap.size 37 (ansE 1).toArray ∧ Mod no w9 ((w9.alloc (.cells #[.int .i64 0, .int .i64 0, .int .i64 0, .string ⟨#[]⟩, .int .i64 0, .int .i64 0, .string ⟨#[]⟩] 37)).setCells w9.heap.size 0 (ansE 1)) := new_set (w := w9) (t := 37) (x := ansE 0) (y := ansE 1) rfl
          have mm := m9.and_then t3
          have H10 := Lib.hid (And.intro (H9.out.2.1.mod mm (fun c => c)) (And.intro (H9.out.2.2.1.and_then mm) (And.intro (H9.out.2.2.2.1.mod mm (fun c => c)) (And.intro (H9.out.2.2.2.2.mod mm (fun c => c)) t2))))
          have HT := Lib.hid t1
          clear m9 mm t1 t2 t3 HC2 H9
          go_wp2_with (first
            | (refine wpList_store_mid rfl 37 (.tmp 10) (.tmp 53) rfl w9.heap.size 0 (ansE 1).toArray rfl rfl HT.out (by rw [List.size_toArray]; exact ans_info rfl) (ans_one _) ?_
               simp only [List.toList_toArray]
               clear HT
               generalize (w9.alloc (.cells #[.int .i64 0, .int .i64 0, .int .i64 0, .string ⟨#[]⟩, .int .i64 0, .int .i64 0, .string ⟨#[]⟩] 37)).setCells w9.heap.size 0 (ansE 1) = w10 at *
               have H11 := Lib.hid H10.out
               clear H10)
            | (refine wpList_load_midG rfl 37 (.tmp 8) rfl w7.heap.size 0 rfl (ansE 1) _ (var_at H11.out.2.2.2.1) Try.underlying37 rfl (ans_info rfl) ?_)
            | (refine wpList_load_midG rfl 37 (.tmp 7) rfl w5.heap.size 0 rfl (ansE 1) _ (var_at H11.out.1) Try.underlying37 rfl (ans_info rfl) ?_)
            | (refine wpList_load_midG rfl 37 (.tmp 10) rfl w9.heap.size 0 rfl (ansE 1) _ (var_at H11.out.2.2.2.2) Try.underlying37 rfl (ans_info rfl) ?_)
            | (refine wpList_neqA rfl (.tmp 62) (.tmp 63) rfl 1 (by decide) rfl rfl ?_)
            | (refine wpList_neqA rfl (.tmp 67) (.tmp 68) rfl 1 (by decide) rfl rfl ?_))
          go_roundw
          case rel => exact ⟨k + 1, HJ.out.1, by go_num, H11.out.2.1, H11.out.2.2.1⟩
          case measure =>
            try rw [hw64]
            clear hw64
            have := HJ.out.1
            show n - ((k : Int) + 1).toNat < n - ((k : Int)).toNat
            omega
        by_cases h3 : kd = 3
        · subst h3
          go_wp2_with (first
            | (refine wpList_load_mid rfl 34 (.tmp 27) rfl b0 (o0 + k * 6) rfl m _ HB.out.1 Try.underlying34 rfl (step_info HB.out.2.2.1) ?_)
            | (refine wpList_store_mid rfl 34 (.tmp 6) (.tmp 28) rfl wr.heap.size 0 m.toArray rfl rfl HB.out.2.1 (by rw [List.size_toArray]; exact step_info HB.out.2.2.1) HB.out.2.2.2.1 ?_
               simp only [List.toList_toArray]
               generalize (wr.alloc (.cells #[.int .i64 0, .int .i64 0, .int .i64 0, .int .i64 0, .slice none 0 0, .bool false] 34)).setCells wr.heap.size 0 m = w5 at *
               have hq1 : Mod no w5 (w5.alloc (.cells #[.int .i64 1, .int .i64 0, .int .i64 0, .string ⟨#[]⟩, .int .i64 0, .int .i64 0, .string ⟨#[]⟩] 37)) := (Mod.refl no w5).alloc _
               have hq2 : Blk (w5.alloc (.cells #[.int .i64 1, .int .i64 0, .int .i64 0, .string ⟨#[]⟩, .int .i64 0, .int .i64 0, .string ⟨#[]⟩] 37)) w5.heap.size 37 (ansE 1).toArray := Blk.new w5 37 #[.int .i64 1, .int .i64 0, .int .i64 0, .string ⟨#[]⟩, .int .i64 0, .int .i64 0, .string ⟨#[]⟩]
               have hx5 := H5.out.1.lt
               have H6 := Lib.hid (And.intro (H5.out.1.mod hq1 (fun c => c)) (And.intro hq2 (And.intro (H5.out.2.1.and_then hq1) (H5.out.2.2.mod hq1 (fun c => c)))))
               have ck : (w5.alloc (.cells #[.int .i64 1, .int .i64 0, .int .i64 0, .string ⟨#[]⟩, .int .i64 0, .int .i64 0, .string ⟨#[]⟩] 37)).cell? ⟨wr.heap.size, 0, none⟩ = some (.int .i64 3) := by rw [(H5.out.1.mod hq1 (fun c => c)).cell, List.getElem?_toArray]; exact hmk
               have cw : (w5.alloc (.cells #[.int .i64 1, .int .i64 0, .int .i64 0, .string ⟨#[]⟩, .int .i64 0, .int .i64 0, .string ⟨#[]⟩] 37)).cell? ⟨w5.heap.size, 0, none⟩ = some (.int .i64 1) := by rw [hq2.cell]; rfl
               have fw := hq2.free 0
               clear hq1 hq2)
            | (refine wpList_load_mid rfl 34 (.tmp 6) rfl wr.heap.size 0 rfl m _ (var_at H6.out.1) Try.underlying34 rfl (step_info HB.out.2.2.1) ?_))
          clear ck cw fw
          generalize (w5.alloc (.cells #[.int .i64 1, .int .i64 0, .int .i64 0, .string ⟨#[]⟩, .int .i64 0, .int .i64 0, .string ⟨#[]⟩] 37)) = w6 at *
          rw [HB.out.2.2.2.2.1]
          have HC1 := Lib.hid (asked_n (kd := 3) (p := p) (q := q) (n := nn) (lv := lv) (c := c) (show Base w6 (.pointer none) A l from ⟨HB.out.2.2.2.2.2.1.mod_no H6.out.2.2.1, .inl rfl⟩) HB.out.2.2.2.2.2.2)
          refine HC1.out.mono ?_
          rintro r w7 ⟨rfl, m7⟩
          rw [show errN 3 = 1 from by decide, ← HB.out.2.2.2.2.1]
          obtain ⟨t1, t2, t3⟩ : (w7.alloc (.cells #[.int .i64 0, .int .i64 0, .int .i64 0, .string ⟨#[]⟩, .int .i64 0, .int .i64 0, .string ⟨#[]⟩] 37)).there w7.heap.size 0 (ansE 1).toArray.size ∧ Blk ((w7.alloc (.cells #[.int .i64 0, .int .i64 0, .int .i64 0, .string ⟨#[]⟩, .int .i64 0, .int .i64 0, .string ⟨#[]⟩] 37)).setCells w7.heap.size 0 (ansE 1)) w7.heap.size 37 (ansE 1).toArray ∧ Mod no w7 ((w7.alloc (.cells #[.int .i64 0, .int .i64 0, .int .i64 0, .string ⟨#[]⟩, .int .i64 0, .int .i64 0, .string ⟨#[]⟩] 37)).setCells w7.heap.size 0 (ansE 1)) := new_set (w := w7) (t := 37) (x := ansE 0) (y := ansE 1) rfl
          have mm8 := m7.and_then t3
          have H8 := Lib.hid (And.intro (H6.out.1.mod mm8 (fun c => c)) (And.intro (H6.out.2.1.mod mm8 (fun c => c)) (And.intro (H6.out.2.2.1.and_then mm8) (And.intro (H6.out.2.2.2.mod mm8 (fun c => c)) t2))))
          have HT := Lib.hid t1
          clear m7 mm8 t1 t2 t3 HC1 H6
          go_wp2_with (first
            | (refine wpList_store_mid rfl 37 (.tmp 8) (.tmp 47) rfl w7.heap.size 0 (ansE 1).toArray rfl rfl HT.out (by rw [List.size_toArray]; exact ans_info rfl) (ans_one _) ?_
               simp only [List.toList_toArray]
               clear HT
               generalize (w7.alloc (.cells #[.int .i64 0, .int .i64 0, .int .i64 0, .string ⟨#[]⟩, .int .i64 0, .int .i64 0, .string ⟨#[]⟩] 37)).setCells w7.heap.size 0 (ansE 1) = w8 at *
               have H9 := Lib.hid H8.out
               clear H8)
            | (refine wpList_load_mid rfl 34 (.tmp 6) rfl wr.heap.size 0 rfl m _ (var_at H9.out.1) Try.underlying34 rfl (step_info HB.out.2.2.1) ?_))
          rw [HB.out.2.2.2.2.1]
          have HC2 := Lib.hid (asked_n (kd := 3) (p := p) (q := q) (n := nn) (lv := lv) (c := c) (show Base w8 (.pointer (some ⟨z, 0, none⟩)) A l from ⟨HB.out.2.2.2.2.2.1.mod_no H9.out.2.2.1, .inr ⟨z, rfl, H9.out.2.2.2.1⟩⟩) HB.out.2.2.2.2.2.2)
          refine HC2.out.mono ?_
          rintro r w9 ⟨rfl, m9⟩
          rw [show errN 3 = 1 from by decide, ← HB.out.2.2.2.2.1]
          obtain ⟨t1, t2, t3⟩ : (w9.alloc (.cells #[.int .i64 0, .int .i64 0, .int .i64 0, .string ⟨#[]⟩, .int .i64 0, .int .i64 0, .string ⟨#[]⟩] 37)).there w9.heap.size 0 (ansE 1).toArray.size ∧ Blk ((w9.alloc (.cells #[.int .i64 0, .int .i64 0, .int .i64 0, .string ⟨#[]⟩, .int .i64 0, .int .i64 0, .string ⟨#[]⟩] 37)).setCells w9.heap.size 0 (ansE 1)) w9.heap.size 37 (ansE 1).toArray ∧ Mod no w9 ((w9.alloc (.cells #[.int .i64 0, .int .i64 0, .int .i64 0, .string ⟨#[]⟩, .int .i64 0, .int .i64 0, .string ⟨#[]⟩] 37)).setCells w9.heap.size 0 (ansE 1)) := new_set (w := w9) (t := 37) (x := ansE 0) (y := ansE 1) rfl
          have mm := m9.and_then t3
          have H10 := Lib.hid (And.intro (H9.out.2.1.mod mm (fun c => c)) (And.intro (H9.out.2.2.1.and_then mm) (And.intro (H9.out.2.2.2.1.mod mm (fun c => c)) (And.intro (H9.out.2.2.2.2.mod mm (fun c => c)) t2))))
          have HT := Lib.hid t1
          clear m9 mm t1 t2 t3 HC2 H9
          go_wp2_with (first
            | (refine wpList_store_mid rfl 37 (.tmp 10) (.tmp 53) rfl w9.heap.size 0 (ansE 1).toArray rfl rfl HT.out (by rw [List.size_toArray]; exact ans_info rfl) (ans_one _) ?_
               simp only [List.toList_toArray]
               clear HT
               generalize (w9.alloc (.cells #[.int .i64 0, .int .i64 0, .int .i64 0, .string ⟨#[]⟩, .int .i64 0, .int .i64 0, .string ⟨#[]⟩] 37)).setCells w9.heap.size 0 (ansE 1) = w10 at *
               have H11 := Lib.hid H10.out
               clear H10)
            | (refine wpList_load_midG rfl 37 (.tmp 8) rfl w7.heap.size 0 rfl (ansE 1) _ (var_at H11.out.2.2.2.1) Try.underlying37 rfl (ans_info rfl) ?_)
            | (refine wpList_load_midG rfl 37 (.tmp 7) rfl w5.heap.size 0 rfl (ansE 1) _ (var_at H11.out.1) Try.underlying37 rfl (ans_info rfl) ?_)
            | (refine wpList_load_midG rfl 37 (.tmp 10) rfl w9.heap.size 0 rfl (ansE 1) _ (var_at H11.out.2.2.2.2) Try.underlying37 rfl (ans_info rfl) ?_)
            | (refine wpList_neqA rfl (.tmp 62) (.tmp 63) rfl 1 (by decide) rfl rfl ?_)
            | (refine wpList_neqA rfl (.tmp 67) (.tmp 68) rfl 1 (by decide) rfl rfl ?_))
          go_roundw
          case rel => exact ⟨k + 1, HJ.out.1, by go_num, H11.out.2.1, H11.out.2.2.1⟩
          case measure =>
            try rw [hw64]
            clear hw64
            have := HJ.out.1
            show n - ((k : Int) + 1).toNat < n - ((k : Int)).toNat
            omega
        by_cases h4 : kd = 4
        · subst h4
          go_wp2_with (first
            | (refine wpList_load_mid rfl 34 (.tmp 27) rfl b0 (o0 + k * 6) rfl m _ HB.out.1 Try.underlying34 rfl (step_info HB.out.2.2.1) ?_)
            | (refine wpList_store_mid rfl 34 (.tmp 6) (.tmp 28) rfl wr.heap.size 0 m.toArray rfl rfl HB.out.2.1 (by rw [List.size_toArray]; exact step_info HB.out.2.2.1) HB.out.2.2.2.1 ?_
               simp only [List.toList_toArray]
               generalize (wr.alloc (.cells #[.int .i64 0, .int .i64 0, .int .i64 0, .int .i64 0, .slice none 0 0, .bool false] 34)).setCells wr.heap.size 0 m = w5 at *
               have hq1 : Mod no w5 (w5.alloc (.cells #[.int .i64 1, .int .i64 0, .int .i64 0, .string ⟨#[]⟩, .int .i64 0, .int .i64 0, .string ⟨#[]⟩] 37)) := (Mod.refl no w5).alloc _
               have hq2 : Blk (w5.alloc (.cells #[.int .i64 1, .int .i64 0, .int .i64 0, .string ⟨#[]⟩, .int .i64 0, .int .i64 0, .string ⟨#[]⟩] 37)) w5.heap.size 37 (ansE 1).toArray := Blk.new w5 37 #[.int .i64 1, .int .i64 0, .int .i64 0, .string ⟨#[]⟩, .int .i64 0, .int .i64 0, .string ⟨#[]⟩]
               have hx5 := H5.out.1.lt
               have H6 := Lib.hid (And.intro (H5.out.1.mod hq1 (fun c => c)) (And.intro hq2 (And.intro (H5.out.2.1.and_then hq1) (H5.out.2.2.mod hq1 (fun c => c)))))
               have ck : (w5.alloc (.cells #[.int .i64 1, .int .i64 0, .int .i64 0, .string ⟨#[]⟩, .int .i64 0, .int .i64 0, .string ⟨#[]⟩] 37)).cell? ⟨wr.heap.size, 0, none⟩ = some (.int .i64 4) := by rw [(H5.out.1.mod hq1 (fun c => c)).cell, List.getElem?_toArray]; exact hmk
               have cw : (w5.alloc (.cells #[.int .i64 1, .int .i64 0, .int .i64 0, .string ⟨#[]⟩, .int .i64 0, .int .i64 0, .string ⟨#[]⟩] 37)).cell? ⟨w5.heap.size, 0, none⟩ = some (.int .i64 1) := by rw [hq2.cell]; rfl
               have fw := hq2.free 0
               clear hq1 hq2)
            | (refine wpList_load_mid rfl 34 (.tmp 6) rfl wr.heap.size 0 rfl m _ (var_at H6.out.1) Try.underlying34 rfl (step_info HB.out.2.2.1) ?_))
          clear ck cw fw
          generalize (w5.alloc (.cells #[.int .i64 1, .int .i64 0, .int .i64 0, .string ⟨#[]⟩, .int .i64 0, .int .i64 0, .string ⟨#[]⟩] 37)) = w6 at *
          rw [HB.out.2.2.2.2.1]
          have HC1 := Lib.hid (asked_n (kd := 4) (p := p) (q := q) (n := nn) (lv := lv) (c := c) (show Base w6 (.pointer none) A l from ⟨HB.out.2.2.2.2.2.1.mod_no H6.out.2.2.1, .inl rfl⟩) HB.out.2.2.2.2.2.2)
          refine HC1.out.mono ?_
          rintro r w7 ⟨rfl, m7⟩
          rw [show errN 4 = 1 from by decide, ← HB.out.2.2.2.2.1]
          obtain ⟨t1, t2, t3⟩ : (w7.alloc (.cells #[.int .i64 0, .int .i64 0, .int .i64 0, .string ⟨#[]⟩, .int .i64 0, .int .i64 0, .string ⟨#[]⟩] 37)).there w7.heap.size 0 (ansE 1).toArray.size ∧ Blk ((w7.alloc (.cells #[.int .i64 0, .int .i64 0, .int .i64 0, .string ⟨#[]⟩, .int .i64 0, .int .i64 0, .string ⟨#[]⟩] 37)).setCells w7.heap.size 0 (ansE 1)) w7.heap.size 37 (ansE 1).toArray ∧ Mod no w7 ((w7.alloc (.cells #[.int .i64 0, .int .i64 0, .int .i64 0, .string ⟨#[]⟩, .int .i64 0, .int .i64 0, .string ⟨#[]⟩] 37)).setCells w7.heap.size 0 (ansE 1)) := new_set (w := w7) (t := 37) (x := ansE 0) (y := ansE 1) rfl
          have mm8 := m7.and_then t3
          have H8 := Lib.hid (And.intro (H6.out.1.mod mm8 (fun c => c)) (And.intro (H6.out.2.1.mod mm8 (fun c => c)) (And.intro (H6.out.2.2.1.and_then mm8) (And.intro (H6.out.2.2.2.mod mm8 (fun c => c)) t2))))
          have HT := Lib.hid t1
          clear m7 mm8 t1 t2 t3 HC1 H6
          go_wp2_with (first
            | (refine wpList_store_mid rfl 37 (.tmp 8) (.tmp 47) rfl w7.heap.size 0 (ansE 1).toArray rfl rfl HT.out (by rw [List.size_toArray]; exact ans_info rfl) (ans_one _) ?_
               simp only [List.toList_toArray]
               clear HT
               generalize (w7.alloc (.cells #[.int .i64 0, .int .i64 0, .int .i64 0, .string ⟨#[]⟩, .int .i64 0, .int .i64 0, .string ⟨#[]⟩] 37)).setCells w7.heap.size 0 (ansE 1) = w8 at *
               have H9 := Lib.hid H8.out
               clear H8)
            | (refine wpList_load_mid rfl 34 (.tmp 6) rfl wr.heap.size 0 rfl m _ (var_at H9.out.1) Try.underlying34 rfl (step_info HB.out.2.2.1) ?_))
          rw [HB.out.2.2.2.2.1]
          have HC2 := Lib.hid (asked_n (kd := 4) (p := p) (q := q) (n := nn) (lv := lv) (c := c) (show Base w8 (.pointer (some ⟨z, 0, none⟩)) A l from ⟨HB.out.2.2.2.2.2.1.mod_no H9.out.2.2.1, .inr ⟨z, rfl, H9.out.2.2.2.1⟩⟩) HB.out.2.2.2.2.2.2)
          refine HC2.out.mono ?_
          rintro r w9 ⟨rfl, m9⟩
          rw [show errN 4 = 1 from by decide, ← HB.out.2.2.2.2.1]
          obtain ⟨t1, t2, t3⟩ : (w9.alloc (.cells #[.int .i64 0, .int .i64 0, .int .i64 0, .string ⟨#[]⟩, .int .i64 0, .int .i64 0, .string ⟨#[]⟩] 37)).there w9.heap.size 0 (ansE 1).toArray.size ∧ Blk ((w9.alloc (.cells #[.int .i64 0, .int .i64 0, .int .i64 0, .string ⟨#[]⟩, .int .i64 0, .int .i64 0, .string ⟨#[]⟩] 37)).setCells w9.heap.size 0 (ansE 1)) w9.heap.size 37 (ansE 1).toArray ∧ Mod no w9 ((w9.alloc (.cells #[.int .i64 0, .int .i64 0, .int .i64 0, .string ⟨#[]⟩, .int .i64 0, .int .i64 0, .string ⟨#[]⟩] 37)).setCells w9.heap.size 0 (ansE 1)) := new_set (w := w9) (t := 37) (x := ansE 0) (y := ansE 1) rfl
          have mm := m9.and_then t3
          have H10 := Lib.hid (And.intro (H9.out.2.1.mod mm (fun c => c)) (And.intro (H9.out.2.2.1.and_then mm) (And.intro (H9.out.2.2.2.1.mod mm (fun c => c)) (And.intro (H9.out.2.2.2.2.mod mm (fun c => c)) t2))))
          have HT := Lib.hid t1
          clear m9 mm t1 t2 t3 HC2 H9
          go_wp2_with (first
            | (refine wpList_store_mid rfl 37 (.tmp 10) (.tmp 53) rfl w9.heap.size 0 (ansE 1).toArray rfl rfl HT.out (by rw [List.size_toArray]; exact ans_info rfl) (ans_one _) ?_
               simp only [List.toList_toArray]
               clear HT
               generalize (w9.alloc (.cells #[.int .i64 0, .int .i64 0, .int .i64 0, .string ⟨#[]⟩, .int .i64 0, .int .i64 0, .string ⟨#[]⟩] 37)).setCells w9.heap.size 0 (ansE 1) = w10 at *
               have H11 := Lib.hid H10.out
               clear H10)
            | (refine wpList_load_midG rfl 37 (.tmp 8) rfl w7.heap.size 0 rfl (ansE 1) _ (var_at H11.out.2.2.2.1) Try.underlying37 rfl (ans_info rfl) ?_)
            | (refine wpList_load_midG rfl 37 (.tmp 7) rfl w5.heap.size 0 rfl (ansE 1) _ (var_at H11.out.1) Try.underlying37 rfl (ans_info rfl) ?_)
            | (refine wpList_load_midG rfl 37 (.tmp 10) rfl w9.heap.size 0 rfl (ansE 1) _ (var_at H11.out.2.2.2.2) Try.underlying37 rfl (ans_info rfl) ?_)
            | (refine wpList_neqA rfl (.tmp 62) (.tmp 63) rfl 1 (by decide) rfl rfl ?_)
            | (refine wpList_neqA rfl (.tmp 67) (.tmp 68) rfl 1 (by decide) rfl rfl ?_))
          go_roundw
          case rel => exact ⟨k + 1, HJ.out.1, by go_num, H11.out.2.1, H11.out.2.2.1⟩
          case measure =>
            try rw [hw64]
            clear hw64
            have := HJ.out.1
            show n - ((k : Int) + 1).toNat < n - ((k : Int)).toNat
            omega
        by_cases h5 : kd = 5
        · subst h5
          go_wp2_with (first
            | (refine wpList_load_mid rfl 34 (.tmp 27) rfl b0 (o0 + k * 6) rfl m _ HB.out.1 Try.underlying34 rfl (step_info HB.out.2.2.1) ?_)
            | (refine wpList_store_mid rfl 34 (.tmp 6) (.tmp 28) rfl wr.heap.size 0 m.toArray rfl rfl HB.out.2.1 (by rw [List.size_toArray]; exact step_info HB.out.2.2.1) HB.out.2.2.2.1 ?_
               simp only [List.toList_toArray]
               generalize (wr.alloc (.cells #[.int .i64 0, .int .i64 0, .int .i64 0, .int .i64 0, .slice none 0 0, .bool false] 34)).setCells wr.heap.size 0 m = w5 at *
               have hq1 : Mod no w5 (w5.alloc (.cells #[.int .i64 1, .int .i64 0, .int .i64 0, .string ⟨#[]⟩, .int .i64 0, .int .i64 0, .string ⟨#[]⟩] 37)) := (Mod.refl no w5).alloc _
               have hq2 : Blk (w5.alloc (.cells #[.int .i64 1, .int .i64 0, .int .i64 0, .string ⟨#[]⟩, .int .i64 0, .int .i64 0, .string ⟨#[]⟩] 37)) w5.heap.size 37 (ansE 1).toArray := Blk.new w5 37 #[.int .i64 1, .int .i64 0, .int .i64 0, .string ⟨#[]⟩, .int .i64 0, .int .i64 0, .string ⟨#[]⟩]
               have hx5 := H5.out.1.lt
               have H6 := Lib.hid (And.intro (H5.out.1.mod hq1 (fun c => c)) (And.intro hq2 (And.intro (H5.out.2.1.and_then hq1) (H5.out.2.2.mod hq1 (fun c => c)))))
               have ck : (w5.alloc (.cells #[.int .i64 1, .int .i64 0, .int .i64 0, .string ⟨#[]⟩, .int .i64 0, .int .i64 0, .string ⟨#[]⟩] 37)).cell? ⟨wr.heap.size, 0, none⟩ = some (.int .i64 5) := by rw [(H5.out.1.mod hq1 (fun c => c)).cell, List.getElem?_toArray]; exact hmk
               have cw : (w5.alloc (.cells #[.int .i64 1, .int .i64 0, .int .i64 0, .string ⟨#[]⟩, .int .i64 0, .int .i64 0, .string ⟨#[]⟩] 37)).cell? ⟨w5.heap.size, 0, none⟩ = some (.int .i64 1) := by rw [hq2.cell]; rfl
               have fw := hq2.free 0
               clear hq1 hq2)
            | (refine wpList_load_mid rfl 34 (.tmp 6) rfl wr.heap.size 0 rfl m _ (var_at H6.out.1) Try.underlying34 rfl (step_info HB.out.2.2.1) ?_))
          clear ck cw fw
          generalize (w5.alloc (.cells #[.int .i64 1, .int .i64 0, .int .i64 0, .string ⟨#[]⟩, .int .i64 0, .int .i64 0, .string ⟨#[]⟩] 37)) = w6 at *
          rw [HB.out.2.2.2.2.1]
          have HC1 := Lib.hid (asked_n (kd := 5) (p := p) (q := q) (n := nn) (lv := lv) (c := c) (show Base w6 (.pointer none) A l from ⟨HB.out.2.2.2.2.2.1.mod_no H6.out.2.2.1, .inl rfl⟩) HB.out.2.2.2.2.2.2)
          refine HC1.out.mono ?_
          rintro r w7 ⟨rfl, m7⟩
          rw [show errN 5 = 1 from by decide, ← HB.out.2.2.2.2.1]
          obtain ⟨t1, t2, t3⟩ : (w7.alloc (.cells #[.int .i64 0, .int .i64 0, .int .i64 0, .string ⟨#[]⟩, .int .i64 0, .int .i64 0, .string ⟨#[]⟩] 37)).there w7.heap.size 0 (ansE 1).toArray.size ∧ Blk ((w7.alloc (.cells #[.int .i64 0, .int .i64 0, .int .i64 0, .string ⟨#[]⟩, .int .i64 0, .int .i64 0, .string ⟨#[]⟩] 37)).setCells w7.heap.size 0 (ansE 1)) w7.heap.size 37 (ansE 1).toArray ∧ Mod no w7 ((w7.alloc (.cells #[.int .i64 0, .int .i64 0, .int .i64 0, .string ⟨#[]⟩, .int .i64 0, .int .i64 0, .string ⟨#[]⟩] 37)).setCells w7.heap.size 0 (ansE 1)) := new_set (w := w7) (t := 37) (x := ansE 0) (y := ansE 1) rfl
          have mm8 := m7.and_then t3
          have H8 := Lib.hid (And.intro (H6.out.1.mod mm8 (fun c => c)) (And.intro (H6.out.2.1.mod mm8 (fun c => c)) (And.intro (H6.out.2.2.1.and_then mm8) (And.intro (H6.out.2.2.2.mod mm8 (fun c => c)) t2))))
          have HT := Lib.hid t1
          clear m7 mm8 t1 t2 t3 HC1 H6
          go_wp2_with (first
            | (refine wpList_store_mid rfl 37 (.tmp 8) (.tmp 47) rfl w7.heap.size 0 (ansE 1).toArray rfl rfl HT.out (by rw [List.size_toArray]; exact ans_info rfl) (ans_one _) ?_
               simp only [List.toList_toArray]
               clear HT
               generalize (w7.alloc (.cells #[.int .i64 0, .int .i64 0, .int .i64 0, .string ⟨#[]⟩, .int .i64 0, .int .i64 0, .string ⟨#[]⟩] 37)).setCells w7.heap.size 0 (ansE 1) = w8 at *
               have H9 := Lib.hid H8.out
               clear H8)
            | (refine wpList_load_mid rfl 34 (.tmp 6) rfl wr.heap.size 0 rfl m _ (var_at H9.out.1) Try.underlying34 rfl (step_info HB.out.2.2.1) ?_))
          rw [HB.out.2.2.2.2.1]
          have HC2 := Lib.hid (asked_n (kd := 5) (p := p) (q := q) (n := nn) (lv := lv) (c := c) (show Base w8 (.pointer (some ⟨z, 0, none⟩)) A l from ⟨HB.out.2.2.2.2.2.1.mod_no H9.out.2.2.1, .inr ⟨z, rfl, H9.out.2.2.2.1⟩⟩) HB.out.2.2.2.2.2.2)
          refine HC2.out.mono ?_
          rintro r w9 ⟨rfl, m9⟩
          rw [show errN 5 = 1 from by decide, ← HB.out.2.2.2.2.1]
          obtain ⟨t1, t2, t3⟩ : (w9.alloc (.cells #[.int .i64 0, .int .i64 0, .int .i64 0, .string ⟨#[]⟩, .int .i64 0, .int .i64 0, .string ⟨#[]⟩] 37)).there w9.heap.size 0 (ansE 1).toArray.size ∧ Blk ((w9.alloc (.cells #[.int .i64 0, .int .i64 0, .int .i64 0, .string ⟨#[]⟩, .int .i64 0, .int .i64 0, .string ⟨#[]⟩] 37)).setCells w9.heap.size 0 (ansE 1)) w9.heap.size 37 (ansE 1).toArray ∧ Mod no w9 ((w9.alloc (.cells #[.int .i64 0, .int .i64 0, .int .i64 0, .string ⟨#[]⟩, .int .i64 0, .int .i64 0, .string ⟨#[]⟩] 37)).setCells w9.heap.size 0 (ansE 1)) := new_set (w := w9) (t := 37) (x := ansE 0) (y := ansE 1) rfl
          have mm := m9.and_then t3
          have H10 := Lib.hid (And.intro (H9.out.2.1.mod mm (fun c => c)) (And.intro (H9.out.2.2.1.and_then mm) (And.intro (H9.out.2.2.2.1.mod mm (fun c => c)) (And.intro (H9.out.2.2.2.2.mod mm (fun c => c)) t2))))
          have HT := Lib.hid t1
          clear m9 mm t1 t2 t3 HC2 H9
          go_wp2_with (first
            | (refine wpList_store_mid rfl 37 (.tmp 10) (.tmp 53) rfl w9.heap.size 0 (ansE 1).toArray rfl rfl HT.out (by rw [List.size_toArray]; exact ans_info rfl) (ans_one _) ?_
               simp only [List.toList_toArray]
               clear HT
               generalize (w9.alloc (.cells #[.int .i64 0, .int .i64 0, .int .i64 0, .string ⟨#[]⟩, .int .i64 0, .int .i64 0, .string ⟨#[]⟩] 37)).setCells w9.heap.size 0 (ansE 1) = w10 at *
               have H11 := Lib.hid H10.out
               clear H10)
            | (refine wpList_load_midG rfl 37 (.tmp 8) rfl w7.heap.size 0 rfl (ansE 1) _ (var_at H11.out.2.2.2.1) Try.underlying37 rfl (ans_info rfl) ?_)
            | (refine wpList_load_midG rfl 37 (.tmp 7) rfl w5.heap.size 0 rfl (ansE 1) _ (var_at H11.out.1) Try.underlying37 rfl (ans_info rfl) ?_)
            | (refine wpList_load_midG rfl 37 (.tmp 10) rfl w9.heap.size 0 rfl (ansE 1) _ (var_at H11.out.2.2.2.2) Try.underlying37 rfl (ans_info rfl) ?_)
            | (refine wpList_neqA rfl (.tmp 62) (.tmp 63) rfl 1 (by decide) rfl rfl ?_)
            | (refine wpList_neqA rfl (.tmp 67) (.tmp 68) rfl 1 (by decide) rfl rfl ?_))
          go_roundw
          case rel => exact ⟨k + 1, HJ.out.1, by go_num, H11.out.2.1, H11.out.2.2.1⟩
          case measure =>
            try rw [hw64]
            clear hw64
            have := HJ.out.1
            show n - ((k : Int) + 1).toNat < n - ((k : Int)).toNat
            omega
        by_cases h6 : kd = 6
        · subst h6
          go_wp2_with (first
            | (refine wpList_load_mid rfl 34 (.tmp 27) rfl b0 (o0 + k * 6) rfl m _ HB.out.1 Try.underlying34 rfl (step_info HB.out.2.2.1) ?_)
            | (refine wpList_store_mid rfl 34 (.tmp 6) (.tmp 28) rfl wr.heap.size 0 m.toArray rfl rfl HB.out.2.1 (by rw [List.size_toArray]; exact step_info HB.out.2.2.1) HB.out.2.2.2.1 ?_
               simp only [List.toList_toArray]
               generalize (wr.alloc (.cells #[.int .i64 0, .int .i64 0, .int .i64 0, .int .i64 0, .slice none 0 0, .bool false] 34)).setCells wr.heap.size 0 m = w5 at *
               have hq1 : Mod no w5 (w5.alloc (.cells #[.int .i64 1, .int .i64 0, .int .i64 0, .string ⟨#[]⟩, .int .i64 0, .int .i64 0, .string ⟨#[]⟩] 37)) := (Mod.refl no w5).alloc _
               have hq2 : Blk (w5.alloc (.cells #[.int .i64 1, .int .i64 0, .int .i64 0, .string ⟨#[]⟩, .int .i64 0, .int .i64 0, .string ⟨#[]⟩] 37)) w5.heap.size 37 (ansE 1).toArray := Blk.new w5 37 #[.int .i64 1, .int .i64 0, .int .i64 0, .string ⟨#[]⟩, .int .i64 0, .int .i64 0, .string ⟨#[]⟩]
               have hx5 := H5.out.1.lt
               have H6 := Lib.hid (And.intro (H5.out.1.mod hq1 (fun c => c)) (And.intro hq2 (And.intro (H5.out.2.1.and_then hq1) (H5.out.2.2.mod hq1 (fun c => c)))))
               have ck : (w5.alloc (.cells #[.int .i64 1, .int .i64 0, .int .i64 0, .string ⟨#[]⟩, .int .i64 0, .int .i64 0, .string ⟨#[]⟩] 37)).cell? ⟨wr.heap.size, 0, none⟩ = some (.int .i64 6) := by rw [(H5.out.1.mod hq1 (fun c => c)).cell, List.getElem?_toArray]; exact hmk
               have cw : (w5.alloc (.cells #[.int .i64 1, .int .i64 0, .int .i64 0, .string ⟨#[]⟩, .int .i64 0, .int .i64 0, .string ⟨#[]⟩] 37)).cell? ⟨w5.heap.size, 0, none⟩ = some (.int .i64 1) := by rw [hq2.cell]; rfl
               have fw := hq2.free 0
               clear hq1 hq2)
            | (refine wpList_load_mid rfl 34 (.tmp 6) rfl wr.heap.size 0 rfl m _ (var_at H6.out.1) Try.underlying34 rfl (step_info HB.out.2.2.1) ?_))
          clear ck cw fw
          generalize (w5.alloc (.cells #[.int .i64 1, .int .i64 0, .int .i64 0, .string ⟨#[]⟩, .int .i64 0, .int .i64 0, .string ⟨#[]⟩] 37)) = w6 at *
          rw [HB.out.2.2.2.2.1]
          have HC1 := Lib.hid (asked_n (kd := 6) (p := p) (q := q) (n := nn) (lv := lv) (c := c) (show Base w6 (.pointer none) A l from ⟨HB.out.2.2.2.2.2.1.mod_no H6.out.2.2.1, .inl rfl⟩) HB.out.2.2.2.2.2.2)
          refine HC1.out.mono ?_
          rintro r w7 ⟨rfl, m7⟩
          rw [show errN 6 = 1 from by decide, ← HB.out.2.2.2.2.1]
          obtain ⟨t1, t2, t3⟩ : (w7.alloc (.cells #[.int .i64 0, .int .i64 0, .int .i64 0, .string ⟨#[]⟩, .int .i64 0, .int .i64 0, .string ⟨#[]⟩] 37)).there w7.heap.size 0 (ansE 1).toArray.size ∧ Blk ((w7.alloc (.cells #[.int .i64 0, .int .i64 0, .int .i64 0, .string ⟨#[]⟩, .int .i64 0, .int .i64 0, .string ⟨#[]⟩] 37)).setCells w7.heap.size 0 (ansE 1)) w7.heap.size 37 (ansE 1).toArray ∧ Mod no w7 ((w7.alloc (.cells #[.int .i64 0, .int .i64 0, .int .i64 0, .string ⟨#[]⟩, .int .i64 0, .int .i64 0, .string ⟨#[]⟩] 37)).setCells w7.heap.size 0 (ansE 1)) := new_set (w := w7) (t := 37) (x := ansE 0) (y := ansE 1) rfl
          have mm8 := m7.and_then t3
          have H8 := Lib.hid (And.intro (H6.out.1.mod mm8 (fun c => c)) (And.intro (H6.out.2.1.mod mm8 (fun c => c)) (And.intro (H6.out.2.2.1.and_then mm8) (And.intro (H6.out.2.2.2.mod mm8 (fun c => c)) t2))))
          have HT := Lib.hid t1
          clear m7 mm8 t1 t2 t3 HC1 H6
          go_wp2_with (first
            | (refine wpList_store_mid rfl 37 (.tmp 8) (.tmp 47) rfl w7.heap.size 0 (ansE 1).toArray rfl rfl HT.out (by rw [List.size_toArray]; exact ans_info rfl) (ans_one _) ?_
               simp only [List.toList_toArray]
               clear HT
               generalize (w7.alloc (.cells #[.int .i64 0, .int .i64 0, .int .i64 0, .string ⟨#[]⟩, .int .i64 0, .int .i64 0, .string ⟨#[]⟩] 37)).setCells w7.heap.size 0 (ansE 1) = w8 at *
               have H9 := Lib.hid H8.out
               clear H8)
            | (refine wpList_load_mid rfl 34 (.tmp 6) rfl wr.heap.size 0 rfl m _ (var_at H9.out.1) Try.underlying34 rfl (step_info HB.out.2.2.1) ?_))
          rw [HB.out.2.2.2.2.1]
          have HC2 := Lib.hid (asked_n (kd := 6) (p := p) (q := q) (n := nn) (lv := lv) (c := c) (show Base w8 (.pointer (some ⟨z, 0, none⟩)) A l from ⟨HB.out.2.2.2.2.2.1.mod_no H9.out.2.2.1, .inr ⟨z, rfl, H9.out.2.2.2.1⟩⟩) HB.out.2.2.2.2.2.2)
          refine HC2.out.mono ?_
          rintro r w9 ⟨rfl, m9⟩
          rw [show errN 6 = 1 from by decide, ← HB.out.2.2.2.2.1]
          obtain ⟨t1, t2, t3⟩ : (w9.alloc (.cells #[.int .i64 0, .int .i64 0, .int .i64 0, .string ⟨#[]⟩, .int .i64 0, .int .i64 0, .string ⟨#[]⟩] 37)).there w9.heap.size 0 (ansE 1).toArray.size ∧ Blk ((w9.alloc (.cells #[.int .i64 0, .int .i64 0, .int .i64 0, .string ⟨#[]⟩, .int .i64 0, .int .i64 0, .string ⟨#[]⟩] 37)).setCells w9.heap.size 0 (ansE 1)) w9.heap.size 37 (ansE 1).toArray ∧ Mod no w9 ((w9.alloc (.cells #[.int .i64 0, .int .i64 0, .int .i64 0, .string ⟨#[]⟩, .int .i64 0, .int .i64 0, .string ⟨#[]⟩] 37)).setCells w9.heap.size 0 (ansE 1)) := new_set (w := w9) (t := 37) (x := ansE 0) (y := ansE 1) rfl
          have mm := m9.and_then t3
          have H10 := Lib.hid (And.intro (H9.out.2.1.mod mm (fun c => c)) (And.intro (H9.out.2.2.1.and_then mm) (And.intro (H9.out.2.2.2.1.mod mm (fun c => c)) (And.intro (H9.out.2.2.2.2.mod mm (fun c => c)) t2))))
          have HT := Lib.hid t1
          clear m9 mm t1 t2 t3 HC2 H9
          go_wp2_with (first
            | (refine wpList_store_mid rfl 37 (.tmp 10) (.tmp 53) rfl w9.heap.size 0 (ansE 1).toArray rfl rfl HT.out (by rw [List.size_toArray]; exact ans_info rfl) (ans_one _) ?_
               simp only [List.toList_toArray]
               clear HT
               generalize (w9.alloc (.cells #[.int .i64 0, .int .i64 0, .int .i64 0, .string ⟨#[]⟩, .int .i64 0, .int .i64 0, .string ⟨#[]⟩] 37)).setCells w9.heap.size 0 (ansE 1) = w10 at *
               have H11 := Lib.hid H10.out
               clear H10)
            | (refine wpList_load_midG rfl 37 (.tmp 8) rfl w7.heap.size 0 rfl (ansE 1) _ (var_at H11.out.2.2.2.1) Try.underlying37 rfl (ans_info rfl) ?_)
            | (refine wpList_load_midG rfl 37 (.tmp 7) rfl w5.heap.size 0 rfl (ansE 1) _ (var_at H11.out.1) Try.underlying37 rfl (ans_info rfl) ?_)
            | (refine wpList_load_midG rfl 37 (.tmp 10) rfl w9.heap.size 0 rfl (ansE 1) _ (var_at H11.out.2.2.2.2) Try.underlying37 rfl (ans_info rfl) ?_)
            | (refine wpList_neqA rfl (.tmp 62) (.tmp 63) rfl 1 (by decide) rfl rfl ?_)
            | (refine wpList_neqA rfl (.tmp 67) (.tmp 68) rfl 1 (by decide) rfl rfl ?_))
          go_roundw
          case rel => exact ⟨k + 1, HJ.out.1, by go_num, H11.out.2.1, H11.out.2.2.1⟩
          case measure =>
            try rw [hw64]
            clear hw64
            have := HJ.out.1
            show n - ((k : Int) + 1).toNat < n - ((k : Int)).toNat
            omega
        by_cases h7 : kd = 7
        · subst h7
          go_wp2_with (first
            | (refine wpList_load_mid rfl 34 (.tmp 27) rfl b0 (o0 + k * 6) rfl m _ HB.out.1 Try.underlying34 rfl (step_info HB.out.2.2.1) ?_)
            | (refine wpList_store_mid rfl 34 (.tmp 6) (.tmp 28) rfl wr.heap.size 0 m.toArray rfl rfl HB.out.2.1 (by rw [List.size_toArray]; exact step_info HB.out.2.2.1) HB.out.2.2.2.1 ?_
               simp only [List.toList_toArray]
               generalize (wr.alloc (.cells #[.int .i64 0, .int .i64 0, .int .i64 0, .int .i64 0, .slice none 0 0, .bool false] 34)).setCells wr.heap.size 0 m = w5 at *
               have hq1 : Mod no w5 (w5.alloc (.cells #[.int .i64 1, .int .i64 0, .int .i64 0, .string ⟨#[]⟩, .int .i64 0, .int .i64 0, .string ⟨#[]⟩] 37)) := (Mod.refl no w5).alloc _
               have hq2 : Blk (w5.alloc (.cells #[.int .i64 1, .int .i64 0, .int .i64 0, .string ⟨#[]⟩, .int .i64 0, .int .i64 0, .string ⟨#[]⟩] 37)) w5.heap.size 37 (ansE 1).toArray := Blk.new w5 37 #[.int .i64 1, .int .i64 0, .int .i64 0, .string ⟨#[]⟩, .int .i64 0, .int .i64 0, .string ⟨#[]⟩]
               have hx5 := H5.out.1.lt
               have H6 := Lib.hid (And.intro (H5.out.1.mod hq1 (fun c => c)) (And.intro hq2 (And.intro (H5.out.2.1.and_then hq1) (H5.out.2.2.mod hq1 (fun c => c)))))
               have ck : (w5.alloc (.cells #[.int .i64 1, .int .i64 0, .int .i64 0, .string ⟨#[]⟩, .int .i64 0, .int .i64 0, .string ⟨#[]⟩] 37)).cell? ⟨wr.heap.size, 0, none⟩ = some (.int .i64 7) := by rw [(H5.out.1.mod hq1 (fun c => c)).cell, List.getElem?_toArray]; exact hmk
               have cw : (w5.alloc (.cells #[.int .i64 1, .int .i64 0, .int .i64 0, .string ⟨#[]⟩, .int .i64 0, .int .i64 0, .string ⟨#[]⟩] 37)).cell? ⟨w5.heap.size, 0, none⟩ = some (.int .i64 1) := by rw [hq2.cell]; rfl
               have fw := hq2.free 0
               clear hq1 hq2)
            | (refine wpList_load_mid rfl 34 (.tmp 6) rfl wr.heap.size 0 rfl m _ (var_at H6.out.1) Try.underlying34 rfl (step_info HB.out.2.2.1) ?_))
          clear ck cw fw
          generalize (w5.alloc (.cells #[.int .i64 1, .int .i64 0, .int .i64 0, .string ⟨#[]⟩, .int .i64 0, .int .i64 0, .string ⟨#[]⟩] 37)) = w6 at *
          rw [HB.out.2.2.2.2.1]
          have HC1 := Lib.hid (asked_n (kd := 7) (p := p) (q := q) (n := nn) (lv := lv) (c := c) (show Base w6 (.pointer none) A l from ⟨HB.out.2.2.2.2.2.1.mod_no H6.out.2.2.1, .inl rfl⟩) HB.out.2.2.2.2.2.2)
          refine HC1.out.mono ?_
          rintro r w7 ⟨rfl, m7⟩
          rw [show errN 7 = 1 from by decide, ← HB.out.2.2.2.2.1]
          obtain ⟨t1, t2, t3⟩ : (w7.alloc (.cells #[.int .i64 0, .int .i64 0, .int .i64 0, .string ⟨#[]⟩, .int .i64 0, .int .i64 0, .string ⟨#[]⟩] 37)).there w7.heap.size 0 (ansE 1).toArray.size ∧ Blk ((w7.alloc (.cells #[.int .i64 0, .int .i64 0, .int .i64 0, .string ⟨#[]⟩, .int .i64 0, .int .i64 0, .string ⟨#[]⟩] 37)).setCells w7.heap.size 0 (ansE 1)) w7.heap.size 37 (ansE 1).toArray ∧ Mod no w7 ((w7.alloc (.cells #[.int .i64 0, .int .i64 0, .int .i64 0, .string ⟨#[]⟩, .int .i64 0, .int .i64 0, .string ⟨#[]⟩] 37)).setCells w7.heap.size 0 (ansE 1)) := new_set (w := w7) (t := 37) (x := ansE 0) (y := ansE 1) rfl
          have mm8 := m7.and_then t3
          have H8 := Lib.hid (And.intro (H6.out.1.mod mm8 (fun c => c)) (And.intro (H6.out.2.1.mod mm8 (fun c => c)) (And.intro (H6.out.2.2.1.and_then mm8) (And.intro (H6.out.2.2.2.mod mm8 (fun c => c)) t2))))
          have HT := Lib.hid t1
          clear m7 mm8 t1 t2 t3 HC1 H6
          go_wp2_with (first
            | (refine wpList_store_mid rfl 37 (.tmp 8) (.tmp 47) rfl w7.heap.size 0 (ansE 1).toArray rfl rfl HT.out (by rw [List.size_toArray]; exact ans_info rfl) (ans_one _) ?_
               simp only [List.toList_toArray]
               clear HT
               generalize (w7.alloc (.cells #[.int .i64 0, .int .i64 0, .int .i64 0, .string ⟨#[]⟩, .int .i64 0, .int .i64 0, .string ⟨#[]⟩] 37)).setCells w7.heap.size 0 (ansE 1) = w8 at *
               have H9 := Lib.hid H8.out
               clear H8)
            | (refine wpList_load_mid rfl 34 (.tmp 6) rfl wr.heap.size 0 rfl m _ (var_at H9.out.1) Try.underlying34 rfl (step_info HB.out.2.2.1) ?_))
          rw [HB.out.2.2.2.2.1]
          have HC2 := Lib.hid (asked_n (kd := 7) (p := p) (q := q) (n := nn) (lv := lv) (c := c) (show Base w8 (.pointer (some ⟨z, 0, none⟩)) A l from ⟨HB.out.2.2.2.2.2.1.mod_no H9.out.2.2.1, .inr ⟨z, rfl, H9.out.2.2.2.1⟩⟩) HB.out.2.2.2.2.2.2)
          refine HC2.out.mono ?_
          rintro r w9 ⟨rfl, m9⟩
          rw [show errN 7 = 1 from by decide, ← HB.out.2.2.2.2.1]
          obtain ⟨t1, t2, t3⟩ : (w9.alloc (.cells #[.int .i64 0, .int .i64 0, .int .i64 0, .string ⟨#[]⟩, .int .i64 0, .int .i64 0, .string ⟨#[]⟩] 37)).there w9.heap.size 0 (ansE 1).toArray.size ∧ Blk ((w9.alloc (.cells #[.int .i64 0, .int .i64 0, .int .i64 0, .string ⟨#[]⟩, .int .i64 0, .int .i64 0, .string ⟨#[]⟩] 37)).setCells w9.heap.size 0 (ansE 1)) w9.heap.size 37 (ansE 1).toArray ∧ Mod no w9 ((w9.alloc (.cells #[.int .i64 0, .int .i64 0, .int .i64 0, .string ⟨#[]⟩, .int .i64 0, .int .i64 0, .string ⟨#[]⟩] 37)).setCells w9.heap.size 0 (ansE 1)) := new_set (w := w9) (t := 37) (x := ansE 0) (y := ansE 1) rfl
          have mm := m9.and_then t3
          have H10 := Lib.hid (And.intro (H9.out.2.1.mod mm (fun c => c)) (And.intro (H9.out.2.2.1.and_then mm) (And.intro (H9.out.2.2.2.1.mod mm (fun c => c)) (And.intro (H9.out.2.2.2.2.mod mm (fun c => c)) t2))))
          have HT := Lib.hid t1
          clear m9 mm t1 t2 t3 HC2 H9
          go_wp2_with (first
            | (refine wpList_store_mid rfl 37 (.tmp 10) (.tmp 53) rfl w9.heap.size 0 (ansE 1).toArray rfl rfl HT.out (by rw [List.size_toArray]; exact ans_info rfl) (ans_one _) ?_
               simp only [List.toList_toArray]
               clear HT
               generalize (w9.alloc (.cells #[.int .i64 0, .int .i64 0, .int .i64 0, .string ⟨#[]⟩, .int .i64 0, .int .i64 0, .string ⟨#[]⟩] 37)).setCells w9.heap.size 0 (ansE 1) = w10 at *
               have H11 := Lib.hid H10.out
               clear H10)
            | (refine wpList_load_midG rfl 37 (.tmp 8) rfl w7.heap.size 0 rfl (ansE 1) _ (var_at H11.out.2.2.2.1) Try.underlying37 rfl (ans_info rfl) ?_)
            | (refine wpList_load_midG rfl 37 (.tmp 7) rfl w5.heap.size 0 rfl (ansE 1) _ (var_at H11.out.1) Try.underlying37 rfl (ans_info rfl) ?_)
            | (refine wpList_load_midG rfl 37 (.tmp 10) rfl w9.heap.size 0 rfl (ansE 1) _ (var_at H11.out.2.2.2.2) Try.underlying37 rfl (ans_info rfl) ?_)
            | (refine wpList_neqA rfl (.tmp 62) (.tmp 63) rfl 1 (by decide) rfl rfl ?_)
            | (refine wpList_neqA rfl (.tmp 67) (.tmp 68) rfl 1 (by decide) rfl rfl ?_))
          go_roundw
          case rel => exact ⟨k + 1, HJ.out.1, by go_num, H11.out.2.1, H11.out.2.2.1⟩
          case measure =>
            try rw [hw64]
            clear hw64
            have := HJ.out.1
            show n - ((k : Int) + 1).toNat < n - ((k : Int)).toNat
            omega
        by_cases h8 : kd = 8
        · subst h8
          go_wp2_with (first
            | (refine wpList_load_mid rfl 34 (.tmp 27) rfl b0 (o0 + k * 6) rfl m _ HB.out.1 Try.underlying34 rfl (step_info HB.out.2.2.1) ?_)
            | (refine wpList_store_mid rfl 34 (.tmp 6) (.tmp 28) rfl wr.heap.size 0 m.toArray rfl rfl HB.out.2.1 (by rw [List.size_toArray]; exact step_info HB.out.2.2.1) HB.out.2.2.2.1 ?_
               simp only [List.toList_toArray]
               generalize (wr.alloc (.cells #[.int .i64 0, .int .i64 0, .int .i64 0, .int .i64 0, .slice none 0 0, .bool false] 34)).setCells wr.heap.size 0 m = w5 at *
               have hq1 : Mod no w5 (w5.alloc (.cells #[.int .i64 1, .int .i64 0, .int .i64 0, .string ⟨#[]⟩, .int .i64 0, .int .i64 0, .string ⟨#[]⟩] 37)) := (Mod.refl no w5).alloc _
               have hq2 : Blk (w5.alloc (.cells #[.int .i64 1, .int .i64 0, .int .i64 0, .string ⟨#[]⟩, .int .i64 0, .int .i64 0, .string ⟨#[]⟩] 37)) w5.heap.size 37 (ansE 1).toArray := Blk.new w5 37 #[.int .i64 1, .int .i64 0, .int .i64 0, .string ⟨#[]⟩, .int .i64 0, .int .i64 0, .string ⟨#[]⟩]
               have hx5 := H5.out.1.lt
               have H6 := Lib.hid (And.intro (H5.out.1.mod hq1 (fun c => c)) (And.intro hq2 (And.intro (H5.out.2.1.and_then hq1) (H5.out.2.2.mod hq1 (fun c => c)))))
               have ck : (w5.alloc (.cells #[.int .i64 1, .int .i64 0, .int .i64 0, .string ⟨#[]⟩, .int .i64 0, .int .i64 0, .string ⟨#[]⟩] 37)).cell? ⟨wr.heap.size, 0, none⟩ = some (.int .i64 8) := by rw [(H5.out.1.mod hq1 (fun c => c)).cell, List.getElem?_toArray]; exact hmk
               have cw : (w5.alloc (.cells #[.int .i64 1, .int .i64 0, .int .i64 0, .string ⟨#[]⟩, .int .i64 0, .int .i64 0, .string ⟨#[]⟩] 37)).cell? ⟨w5.heap.size, 0, none⟩ = some (.int .i64 1) := by rw [hq2.cell]; rfl
               have fw := hq2.free 0
               clear hq1 hq2)
            | (refine wpList_load_mid rfl 34 (.tmp 6) rfl wr.heap.size 0 rfl m _ (var_at H6.out.1) Try.underlying34 rfl (step_info HB.out.2.2.1) ?_))
          clear ck cw fw
          generalize (w5.alloc (.cells #[.int .i64 1, .int .i64 0, .int .i64 0, .string ⟨#[]⟩, .int .i64 0, .int .i64 0, .string ⟨#[]⟩] 37)) = w6 at *
          rw [HB.out.2.2.2.2.1]
          have HC1 := Lib.hid (asked_n (kd := 8) (p := p) (q := q) (n := nn) (lv := lv) (c := c) (show Base w6 (.pointer none) A l from ⟨HB.out.2.2.2.2.2.1.mod_no H6.out.2.2.1, .inl rfl⟩) HB.out.2.2.2.2.2.2)
          refine HC1.out.mono ?_
          rintro r w7 ⟨rfl, m7⟩
          rw [show errN 8 = 1 from by decide, ← HB.out.2.2.2.2.1]
          obtain ⟨t1, t2, t3⟩ : (w7.alloc (.cells #[.int .i64 0, .int .i64 0, .int .i64 0, .string ⟨#[]⟩, .int .i64 0, .int .i64 0, .string ⟨#[]⟩] 37)).there w7.heap.size 0 (ansE 1).toArray.size ∧ Blk ((w7.alloc (.cells #[.int .i64 0, .int .i64 0, .int .i64 0, .string ⟨#[]⟩, .int .i64 0, .int .i64 0, .string ⟨#[]⟩] 37)).setCells w7.heap.size 0 (ansE 1)) w7.heap.size 37 (ansE 1).toArray ∧ Mod no w7 ((w7.alloc (.cells #[.int .i64 0, .int .i64 0, .int .i64 0, .string ⟨#[]⟩, .int .i64 0, .int .i64 0, .string ⟨#[]⟩] 37)).setCells w7.heap.size 0 (ansE 1)) := new_set (w := w7) (t := 37) (x := ansE 0) (y := ansE 1) rfl
          have mm8 := m7.and_then t3
          have H8 := Lib.hid (And.intro (H6.out.1.mod mm8 (fun c => c)) (And.intro (H6.out.2.1.mod mm8 (fun c => c)) (And.intro (H6.out.2.2.1.and_then mm8) (And.intro (H6.out.2.2.2.mod mm8 (fun c => c)) t2))))
          have HT := Lib.hid t1
          clear m7 mm8 t1 t2 t3 HC1 H6
          go_wp2_with (first
            | (refine wpList_store_mid rfl 37 (.tmp 8) (.tmp 47) rfl w7.heap.size 0 (ansE 1).toArray rfl rfl HT.out (by rw [List.size_toArray]; exact ans_info rfl) (ans_one _) ?_
               simp only [List.toList_toArray]
               clear HT
               generalize (w7.alloc (.cells #[.int .i64 0, .int .i64 0, .int .i64 0, .string ⟨#[]⟩, .int .i64 0, .int .i64 0, .string ⟨#[]⟩] 37)).setCells w7.heap.size 0 (ansE 1) = w8 at *
               have H9 := Lib.hid H8.out
               clear H8)
            | (refine wpList_load_mid rfl 34 (.tmp 6) rfl wr.heap.size 0 rfl m _ (var_at H9.out.1) Try.underlying34 rfl (step_info HB.out.2.2.1) ?_))
          rw [HB.out.2.2.2.2.1]
          have HC2 := Lib.hid (asked_n (kd := 8) (p := p) (q := q) (n := nn) (lv := lv) (c := c) (show Base w8 (.pointer (some ⟨z, 0, none⟩)) A l from ⟨HB.out.2.2.2.2.2.1.mod_no H9.out.2.2.1, .inr ⟨z, rfl, H9.out.2.2.2.1⟩⟩) HB.out.2.2.2.2.2.2)
          refine HC2.out.mono ?_
          rintro r w9 ⟨rfl, m9⟩
          rw [show errN 8 = 1 from by decide, ← HB.out.2.2.2.2.1]
          obtain ⟨t1, t2, t3⟩ : (w9.alloc (.cells #[.int .i64 0, .int .i64 0, .int .i64 0, .string ⟨#[]⟩, .int .i64 0, .int .i64 0, .string ⟨#[]⟩] 37)).there w9.heap.size 0 (ansE 1).toArray.size ∧ Blk ((w9.alloc (.cells #[.int .i64 0, .int .i64 0, .int .i64 0, .string ⟨#[]⟩, .int .i64 0, .int .i64 0, .string ⟨#[]⟩] 37)).setCells w9.heap.size 0 (ansE 1)) w9.heap.size 37 (ansE 1).toArray ∧ Mod no w9 ((w9.alloc (.cells #[.int .i64 0, .int .i64 0, .int .i64 0, .string ⟨#[]⟩, .int .i64 0, .int .i64 0, .string ⟨#[]⟩] 37)).setCells w9.heap.size 0 (ansE 1)) := new_set (w := w9) (t := 37) (x := ansE 0) (y := ansE 1) rfl
          have mm := m9.and_then t3
          have H10 := Lib.hid (And.intro (H9.out.2.1.mod mm (fun c => c)) (And.intro (H9.out.2.2.1.and_then mm) (And.intro (H9.out.2.2.2.1.mod mm (fun c => c)) (And.intro (H9.out.2.2.2.2.mod mm (fun c => c)) t2))))
          have HT := Lib.hid t1
          clear m9 mm t1 t2 t3 HC2 H9
          go_wp2_with (first
            | (refine wpList_store_mid rfl 37 (.tmp 10) (.tmp 53) rfl w9.heap.size 0 (ansE 1).toArray rfl rfl HT.out (by rw [List.size_toArray]; exact ans_info rfl) (ans_one _) ?_
               simp only [List.toList_toArray]
               clear HT
               generalize (w9.alloc (.cells #[.int .i64 0, .int .i64 0, .int .i64 0, .string ⟨#[]⟩, .int .i64 0, .int .i64 0, .string ⟨#[]⟩] 37)).setCells w9.heap.size 0 (ansE 1) = w10 at *
               have H11 := Lib.hid H10.out
               clear H10)
            | (refine wpList_load_midG rfl 37 (.tmp 8) rfl w7.heap.size 0 rfl (ansE 1) _ (var_at H11.out.2.2.2.1) Try.underlying37 rfl (ans_info rfl) ?_)
            | (refine wpList_load_midG rfl 37 (.tmp 7) rfl w5.heap.size 0 rfl (ansE 1) _ (var_at H11.out.1) Try.underlying37 rfl (ans_info rfl) ?_)
            | (refine wpList_load_midG rfl 37 (.tmp 10) rfl w9.heap.size 0 rfl (ansE 1) _ (var_at H11.out.2.2.2.2) Try.underlying37 rfl (ans_info rfl) ?_)
            | (refine wpList_neqA rfl (.tmp 62) (.tmp 63) rfl 1 (by decide) rfl rfl ?_)
            | (refine wpList_neqA rfl (.tmp 67) (.tmp 68) rfl 1 (by decide) rfl rfl ?_))
          go_roundw
          case rel => exact ⟨k + 1, HJ.out.1, by go_num, H11.out.2.1, H11.out.2.2.1⟩
          case measure =>
            try rw [hw64]
            clear hw64
            have := HJ.out.1
            show n - ((k : Int) + 1).toNat < n - ((k : Int)).toNat
            omega
        by_cases h11 : kd = 11
        · subst h11
          go_wp2_with (first
            | (refine wpList_load_mid rfl 34 (.tmp 27) rfl b0 (o0 + k * 6) rfl m _ HB.out.1 Try.underlying34 rfl (step_info HB.out.2.2.1) ?_)
            | (refine wpList_store_mid rfl 34 (.tmp 6) (.tmp 28) rfl wr.heap.size 0 m.toArray rfl rfl HB.out.2.1 (by rw [List.size_toArray]; exact step_info HB.out.2.2.1) HB.out.2.2.2.1 ?_
               simp only [List.toList_toArray]
               generalize (wr.alloc (.cells #[.int .i64 0, .int .i64 0, .int .i64 0, .int .i64 0, .slice none 0 0, .bool false] 34)).setCells wr.heap.size 0 m = w5 at *
               have hq1 : Mod no w5 (w5.alloc (.cells #[.int .i64 1, .int .i64 0, .int .i64 0, .string ⟨#[]⟩, .int .i64 0, .int .i64 0, .string ⟨#[]⟩] 37)) := (Mod.refl no w5).alloc _
               have hq2 : Blk (w5.alloc (.cells #[.int .i64 1, .int .i64 0, .int .i64 0, .string ⟨#[]⟩, .int .i64 0, .int .i64 0, .string ⟨#[]⟩] 37)) w5.heap.size 37 (ansE 1).toArray := Blk.new w5 37 #[.int .i64 1, .int .i64 0, .int .i64 0, .string ⟨#[]⟩, .int .i64 0, .int .i64 0, .string ⟨#[]⟩]
               have hx5 := H5.out.1.lt
               have H6 := Lib.hid (And.intro (H5.out.1.mod hq1 (fun c => c)) (And.intro hq2 (And.intro (H5.out.2.1.and_then hq1) (H5.out.2.2.mod hq1 (fun c => c)))))
               have ck : (w5.alloc (.cells #[.int .i64 1, .int .i64 0, .int .i64 0, .string ⟨#[]⟩, .int .i64 0, .int .i64 0, .string ⟨#[]⟩] 37)).cell? ⟨wr.heap.size, 0, none⟩ = some (.int .i64 11) := by rw [(H5.out.1.mod hq1 (fun c => c)).cell, List.getElem?_toArray]; exact hmk
               have cw : (w5.alloc (.cells #[.int .i64 1, .int .i64 0, .int .i64 0, .string ⟨#[]⟩, .int .i64 0, .int .i64 0, .string ⟨#[]⟩] 37)).cell? ⟨w5.heap.size, 0, none⟩ = some (.int .i64 1) := by rw [hq2.cell]; rfl
               have fw := hq2.free 0
               clear hq1 hq2)
            | (refine wpList_load_mid rfl 34 (.tmp 6) rfl wr.heap.size 0 rfl m _ (var_at H6.out.1) Try.underlying34 rfl (step_info HB.out.2.2.1) ?_))
          clear ck cw fw
          generalize (w5.alloc (.cells #[.int .i64 1, .int .i64 0, .int .i64 0, .string ⟨#[]⟩, .int .i64 0, .int .i64 0, .string ⟨#[]⟩] 37)) = w6 at *
          rw [HB.out.2.2.2.2.1]
          have HC1 := Lib.hid (asked_n (kd := 11) (p := p) (q := q) (n := nn) (lv := lv) (c := c) (show Base w6 (.pointer none) A l from ⟨HB.out.2.2.2.2.2.1.mod_no H6.out.2.2.1, .inl rfl⟩) HB.out.2.2.2.2.2.2)
          refine HC1.out.mono ?_
          rintro r w7 ⟨rfl, m7⟩
          rw [show errN 11 = 1 from by decide, ← HB.out.2.2.2.2.1]
          obtain ⟨t1, t2, t3⟩ : (w7.alloc (.cells #[.int .i64 0, .int .i64 0, .int .i64 0, .string ⟨#[]⟩, .int .i64 0, .int .i64 0, .string ⟨#[]⟩] 37)).there w7.heap.size 0 (ansE 1).toArray.size ∧ Blk ((w7.alloc (.cells #[.int .i64 0, .int .i64 0, .int .i64 0, .string ⟨#[]⟩, .int .i64 0, .int .i64 0, .string ⟨#[]⟩] 37)).setCells w7.heap.size 0 (ansE 1)) w7.heap.size 37 (ansE 1).toArray ∧ Mod no w7 ((w7.alloc (.cells #[.int .i64 0, .int .i64 0, .int .i64 0, .string ⟨#[]⟩, .int .i64 0, .int .i64 0, .string ⟨#[]⟩] 37)).setCells w7.heap.size 0 (ansE 1)) := new_set (w := w7) (t := 37) (x := ansE 0) (y := ansE 1) rfl
          have mm8 := m7.and_then t3
          have H8 := Lib.hid (And.intro (H6.out.1.mod mm8 (fun c => c)) (And.intro (H6.out.2.1.mod mm8 (fun c => c)) (And.intro (H6.out.2.2.1.and_then mm8) (And.intro (H6.out.2.2.2.mod mm8 (fun c => c)) t2))))
          have HT := Lib.hid t1
          clear m7 mm8 t1 t2 t3 HC1 H6
          go_wp2_with (first
            | (refine wpList_store_mid rfl 37 (.tmp 8) (.tmp 47) rfl w7.heap.size 0 (ansE 1).toArray rfl rfl HT.out (by rw [List.size_toArray]; exact ans_info rfl) (ans_one _) ?_
               simp only [List.toList_toArray]
               clear HT
               generalize (w7.alloc (.cells #[.int .i64 0, .int .i64 0, .int .i64 0, .string ⟨#[]⟩, .int .i64 0, .int .i64 0, .string ⟨#[]⟩] 37)).setCells w7.heap.size 0 (ansE 1) = w8 at *
               have H9 := Lib.hid H8.out
               clear H8)
            | (refine wpList_load_mid rfl 34 (.tmp 6) rfl wr.heap.size 0 rfl m _ (var_at H9.out.1) Try.underlying34 rfl (step_info HB.out.2.2.1) ?_))
          rw [HB.out.2.2.2.2.1]
          have HC2 := Lib.hid (asked_n (kd := 11) (p := p) (q := q) (n := nn) (lv := lv) (c := c) (show Base w8 (.pointer (some ⟨z, 0, none⟩)) A l from ⟨HB.out.2.2.2.2.2.1.mod_no H9.out.2.2.1, .inr ⟨z, rfl, H9.out.2.2.2.1⟩⟩) HB.out.2.2.2.2.2.2)
          refine HC2.out.mono ?_
          rintro r w9 ⟨rfl, m9⟩
          rw [show errN 11 = 1 from by decide, ← HB.out.2.2.2.2.1]
          obtain ⟨t1, t2, t3⟩ : (w9.alloc (.cells #[.int .i64 0, .int .i64 0, .int .i64 0, .string ⟨#[]⟩, .int .i64 0, .int .i64 0, .string ⟨#[]⟩] 37)).there w9.heap.size 0 (ansE 1).toArray.size ∧ Blk ((w9.alloc (.cells #[.int .i64 0, .int .i64 0, .int .i64 0, .string ⟨#[]⟩, .int .i64 0, .int .i64 0, .string ⟨#[]⟩] 37)).setCells w9.heap.size 0 (ansE 1)) w9.heap.size 37 (ansE 1).toArray ∧ Mod no w9 ((w9.alloc (.cells #[.int .i64 0, .int .i64 0, .int .i64 0, .string ⟨#[]⟩, .int .i64 0, .int .i64 0, .string ⟨#[]⟩] 37)).setCells w9.heap.size 0 (ansE 1)) := new_set (w := w9) (t := 37) (x := ansE 0) (y := ansE 1) rfl
          have mm := m9.and_then t3
          have H10 := Lib.hid (And.intro (H9.out.2.1.mod mm (fun c => c)) (And.intro (H9.out.2.2.1.and_then mm) (And.intro (H9.out.2.2.2.1.mod mm (fun c => c)) (And.intro (H9.out.2.2.2.2.mod mm (fun c => c)) t2))))
          have HT := Lib.hid t1
          clear m9 mm t1 t2 t3 HC2 H9
          go_wp2_with (first
            | (refine wpList_store_mid rfl 37 (.tmp 10) (.tmp 53) rfl w9.heap.size 0 (ansE 1).toArray rfl rfl HT.out (by rw [List.size_toArray]; exact ans_info rfl) (ans_one _) ?_
               simp only [List.toList_toArray]
               clear HT
               generalize (w9.alloc (.cells #[.int .i64 0, .int .i64 0, .int .i64 0, .string ⟨#[]⟩, .int .i64 0, .int .i64 0, .string ⟨#[]⟩] 37)).setCells w9.heap.size 0 (ansE 1) = w10 at *
               have H11 := Lib.hid H10.out
               clear H10)
            | (refine wpList_load_midG rfl 37 (.tmp 8) rfl w7.heap.size 0 rfl (ansE 1) _ (var_at H11.out.2.2.2.1) Try.underlying37 rfl (ans_info rfl) ?_)
            | (refine wpList_load_midG rfl 37 (.tmp 7) rfl w5.heap.size 0 rfl (ansE 1) _ (var_at H11.out.1) Try.underlying37 rfl (ans_info rfl) ?_)
            | (refine wpList_load_midG rfl 37 (.tmp 10) rfl w9.heap.size 0 rfl (ansE 1) _ (var_at H11.out.2.2.2.2) Try.underlying37 rfl (ans_info rfl) ?_)
            | (refine wpList_neqA rfl (.tmp 62) (.tmp 63) rfl 1 (by decide) rfl rfl ?_)
            | (refine wpList_neqA rfl (.tmp 67) (.tmp 68) rfl 1 (by decide) rfl rfl ?_))
          go_roundw
          case rel => exact ⟨k + 1, HJ.out.1, by go_num, H11.out.2.1, H11.out.2.2.1⟩
          case measure =>
            try rw [hw64]
            clear hw64
            have := HJ.out.1
            show n - ((k : Int) + 1).toNat < n - ((k : Int)).toNat
            omega
        have hen : errN kd = 0 := if_neg (by omega)
        have HEN := Lib.hid hen
        clear hen
        have hb1 : (kd == 1) = false := by simpa using h1
        have hb2 : (kd == 2) = false := by simpa using h2
        have hb3 : (kd == 3) = false := by simpa using h3
        have hb4 : (kd == 4) = false := by simpa using h4
        have hb5 : (kd == 5) = false := by simpa using h5
        have hb6 : (kd == 6) = false := by simpa using h6
        have hb7 : (kd == 7) = false := by simpa using h7
        have hb8 : (kd == 8) = false := by simpa using h8
        have hb11 : (kd == 11) = false := by simpa using h11
        go_wp2_with (first
          | (refine wpList_load_mid rfl 34 (.tmp 27) rfl b0 (o0 + k * 6) rfl m _ HB.out.1 Try.underlying34 rfl (step_info HB.out.2.2.1) ?_)
          | (refine wpList_store_mid rfl 34 (.tmp 6) (.tmp 28) rfl wr.heap.size 0 m.toArray rfl rfl HB.out.2.1 (by rw [List.size_toArray]; exact step_info HB.out.2.2.1) HB.out.2.2.2.1 ?_
             simp only [List.toList_toArray]
             generalize (wr.alloc (.cells #[.int .i64 0, .int .i64 0, .int .i64 0, .int .i64 0, .slice none 0 0, .bool false] 34)).setCells wr.heap.size 0 m = w5 at *
             have hq1 : Mod no w5 (w5.alloc (.cells #[.int .i64 1, .int .i64 0, .int .i64 0, .string ⟨#[]⟩, .int .i64 0, .int .i64 0, .string ⟨#[]⟩] 37)) := (Mod.refl no w5).alloc _
             have hq2 : Blk (w5.alloc (.cells #[.int .i64 1, .int .i64 0, .int .i64 0, .string ⟨#[]⟩, .int .i64 0, .int .i64 0, .string ⟨#[]⟩] 37)) w5.heap.size 37 (ansE 1).toArray := Blk.new w5 37 #[.int .i64 1, .int .i64 0, .int .i64 0, .string ⟨#[]⟩, .int .i64 0, .int .i64 0, .string ⟨#[]⟩]
             have hx5 := H5.out.1.lt
             have hq3 : Mod no w5 (w5.alloc (.cells #[.int .i64 0, .int .i64 0, .int .i64 0, .string ⟨#[]⟩, .int .i64 0, .int .i64 0, .string ⟨#[]⟩] 37)) := (Mod.refl no w5).alloc _
             have hq4 : Blk (w5.alloc (.cells #[.int .i64 0, .int .i64 0, .int .i64 0, .string ⟨#[]⟩, .int .i64 0, .int .i64 0, .string ⟨#[]⟩] 37)) w5.heap.size 37 (ansE 0).toArray := Blk.new w5 37 #[.int .i64 0, .int .i64 0, .int .i64 0, .string ⟨#[]⟩, .int .i64 0, .int .i64 0, .string ⟨#[]⟩]
             have H6 := Lib.hid (And.intro (H5.out.1.mod hq3 (fun c => c)) (And.intro hq4 (And.intro (H5.out.2.1.and_then hq3) (H5.out.2.2.mod hq3 (fun c => c)))))
             clear hq3 hq4
             have ck : (w5.alloc (.cells #[.int .i64 1, .int .i64 0, .int .i64 0, .string ⟨#[]⟩, .int .i64 0, .int .i64 0, .string ⟨#[]⟩] 37)).cell? ⟨wr.heap.size, 0, none⟩ = some (.int .i64 kd) := by rw [(H5.out.1.mod hq1 (fun c => c)).cell, List.getElem?_toArray]; exact hmk
             have cw : (w5.alloc (.cells #[.int .i64 1, .int .i64 0, .int .i64 0, .string ⟨#[]⟩, .int .i64 0, .int .i64 0, .string ⟨#[]⟩] 37)).cell? ⟨w5.heap.size, 0, none⟩ = some (.int .i64 1) := by rw [hq2.cell]; rfl
             have fw := hq2.free 0
             clear hq1 hq2)
          | (refine wpList_load_mid rfl 34 (.tmp 6) rfl wr.heap.size 0 rfl m _ (var_at H6.out.1) Try.underlying34 rfl (step_info HB.out.2.2.1) ?_))
        clear ck cw fw
        generalize (w5.alloc (.cells #[.int .i64 0, .int .i64 0, .int .i64 0, .string ⟨#[]⟩, .int .i64 0, .int .i64 0, .string ⟨#[]⟩] 37)) = w6 at *
        rw [HB.out.2.2.2.2.1]
        have HC1 := Lib.hid (asked_n (kd := kd) (p := p) (q := q) (n := nn) (lv := lv) (c := c) (show Base w6 (.pointer none) A l from ⟨HB.out.2.2.2.2.2.1.mod_no H6.out.2.2.1, .inl rfl⟩) HB.out.2.2.2.2.2.2)
        refine HC1.out.mono ?_
        rintro r w7 ⟨rfl, m7⟩
        rw [HEN.out, ← HB.out.2.2.2.2.1]
        obtain ⟨t1, t2, t3⟩ : (w7.alloc (.cells #[.int .i64 0, .int .i64 0, .int .i64 0, .string ⟨#[]⟩, .int .i64 0, .int .i64 0, .string ⟨#[]⟩] 37)).there w7.heap.size 0 (ansE 0).toArray.size ∧ Blk ((w7.alloc (.cells #[.int .i64 0, .int .i64 0, .int .i64 0, .string ⟨#[]⟩, .int .i64 0, .int .i64 0, .string ⟨#[]⟩] 37)).setCells w7.heap.size 0 (ansE 0)) w7.heap.size 37 (ansE 0).toArray ∧ Mod no w7 ((w7.alloc (.cells #[.int .i64 0, .int .i64 0, .int .i64 0, .string ⟨#[]⟩, .int .i64 0, .int .i64 0, .string ⟨#[]⟩] 37)).setCells w7.heap.size 0 (ansE 0)) := new_set (w := w7) (t := 37) (x := ansE 0) (y := ansE 0) rfl
        have mm8 := m7.and_then t3
        have H8 := Lib.hid (And.intro (H6.out.1.mod mm8 (fun c => c)) (And.intro (H6.out.2.1.mod mm8 (fun c => c)) (And.intro (H6.out.2.2.1.and_then mm8) (And.intro (H6.out.2.2.2.mod mm8 (fun c => c)) t2))))
        have HT := Lib.hid t1
        clear m7 mm8 t1 t2 t3 HC1 H6
        go_wp2_with (first
          | (refine wpList_store_mid rfl 37 (.tmp 8) (.tmp 47) rfl w7.heap.size 0 (ansE 0).toArray rfl rfl HT.out (by rw [List.size_toArray]; exact ans_info rfl) (ans_one _) ?_
             simp only [List.toList_toArray]
             clear HT
             generalize (w7.alloc (.cells #[.int .i64 0, .int .i64 0, .int .i64 0, .string ⟨#[]⟩, .int .i64 0, .int .i64 0, .string ⟨#[]⟩] 37)).setCells w7.heap.size 0 (ansE 0) = w8 at *
             have H9 := Lib.hid H8.out
             clear H8)
          | (refine wpList_load_mid rfl 34 (.tmp 6) rfl wr.heap.size 0 rfl m _ (var_at H9.out.1) Try.underlying34 rfl (step_info HB.out.2.2.1) ?_))
        rw [HB.out.2.2.2.2.1]
        have HC2 := Lib.hid (asked_n (kd := kd) (p := p) (q := q) (n := nn) (lv := lv) (c := c) (show Base w8 (.pointer (some ⟨z, 0, none⟩)) A l from ⟨HB.out.2.2.2.2.2.1.mod_no H9.out.2.2.1, .inr ⟨z, rfl, H9.out.2.2.2.1⟩⟩) HB.out.2.2.2.2.2.2)
        refine HC2.out.mono ?_
        rintro r w9 ⟨rfl, m9⟩
        rw [HEN.out, ← HB.out.2.2.2.2.1]
        obtain ⟨t1, t2, t3⟩ : (w9.alloc (.cells #[.int .i64 0, .int .i64 0, .int .i64 0, .string ⟨#[]⟩, .int .i64 0, .int .i64 0, .string ⟨#[]⟩] 37)).there w9.heap.size 0 (ansE 0).toArray.size ∧ Blk ((w9.alloc (.cells #[.int .i64 0, .int .i64 0, .int .i64 0, .string ⟨#[]⟩, .int .i64 0, .int .i64 0, .string ⟨#[]⟩] 37)).setCells w9.heap.size 0 (ansE 0)) w9.heap.size 37 (ansE 0).toArray ∧ Mod no w9 ((w9.alloc (.cells #[.int .i64 0, .int .i64 0, .int .i64 0, .string ⟨#[]⟩, .int .i64 0, .int .i64 0, .string ⟨#[]⟩] 37)).setCells w9.heap.size 0 (ansE 0)) := new_set (w := w9) (t := 37) (x := ansE 0) (y := ansE 0) rfl
        have mm := m9.and_then t3
        have H10 := Lib.hid (And.intro (H9.out.2.1.mod mm (fun c => c)) (And.intro (H9.out.2.2.1.and_then mm) (And.intro (H9.out.2.2.2.1.mod mm (fun c => c)) (And.intro (H9.out.2.2.2.2.mod mm (fun c => c)) t2))))
        have HT := Lib.hid t1
        clear m9 mm t1 t2 t3 HC2 H9
        go_wp2_with (first
          | (refine wpList_store_mid rfl 37 (.tmp 10) (.tmp 53) rfl w9.heap.size 0 (ansE 0).toArray rfl rfl HT.out (by rw [List.size_toArray]; exact ans_info rfl) (ans_one _) ?_
             simp only [List.toList_toArray]
             clear HT
             generalize (w9.alloc (.cells #[.int .i64 0, .int .i64 0, .int .i64 0, .string ⟨#[]⟩, .int .i64 0, .int .i64 0, .string ⟨#[]⟩] 37)).setCells w9.heap.size 0 (ansE 0) = w10 at *
             have H11 := Lib.hid H10.out
             clear H10)
          | (refine wpList_load_midG rfl 37 (.tmp 8) rfl w7.heap.size 0 rfl (ansE 0) _ (var_at H11.out.2.2.2.1) Try.underlying37 rfl (ans_info rfl) ?_)
          | (refine wpList_load_midG rfl 37 (.tmp 7) rfl w5.heap.size 0 rfl (ansE 0) _ (var_at H11.out.1) Try.underlying37 rfl (ans_info rfl) ?_)
          | (refine wpList_load_midG rfl 37 (.tmp 10) rfl w9.heap.size 0 rfl (ansE 0) _ (var_at H11.out.2.2.2.2) Try.underlying37 rfl (ans_info rfl) ?_)
          | (refine wpList_neqA rfl (.tmp 62) (.tmp 63) rfl 0 (by decide) rfl rfl ?_)
          | (refine wpList_neqA rfl (.tmp 67) (.tmp 68) rfl 0 (by decide) rfl rfl ?_))
        go_roundw
        case rel => exact ⟨k + 1, HJ.out.1, by go_num, H11.out.2.1, H11.out.2.2.1⟩
        case measure =>
          try rw [hw64]
          clear hw64
          have := HJ.out.1
          show n - ((k : Int) + 1).toNat < n - ((k : Int)).toNat
          omega
      · obtain rfl : k = n := by omega
        have hj1 : ¬ (k : Int) < (k : Int) := by omega
        have HF := Lib.hid (And.intro M hz)
        clear hk hkn M hz
        go_wp2_with fail
        refine (reserve_n (show Az wr (.pointer none) from .inl rfl)).mono ?_
        rintro e w6 ⟨rfl, m6⟩
        have H6 := Lib.hid (HF.out.1.and_then m6)
        clear m6
        go_wp2_with fail
        go_ret
        exact ⟨rfl, H6.out.alloc _⟩
  · have hn1 : (n : Int) > 4096 := by omega
    have hn2 : (4096 : Int) < (n : Int) := by omega
    go_enter Try.func3, Try.ntmps3
    go_wp2_with fail
    go_ret
    exact ⟨rfl, Mod.refl _ _⟩

end Go.Proofs.Ytkfcpnijhgaejaa.AN
