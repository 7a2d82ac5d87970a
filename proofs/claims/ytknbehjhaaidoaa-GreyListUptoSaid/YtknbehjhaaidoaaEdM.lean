/- The law's moves: Push, Len, All; the whole (printed by greymoves3.py). -/
import Derived.Test.YtknbehjhaaidoaaEdL
import Derived.StillTailTactics
import Derived.Deep.RegionWith
namespace Go.Proofs.Ytknbehjhaaidoaa.DG
open Go.RowKit Mem DQ
set_option linter.unusedVariables false
set_option linter.unusedSimpArgs false

theorem key_range {w : World} {b : Nat} {kd : Int} {nn bt : Bool} {bs : List UInt8} {m : List Value} (h : Blk w b 41 m.toArray) (hm : m = mv kd nn bt (kOf bs)) : w.rangeAt b 3 (kOf bs) := fun j v hv => by
  rw [h.cell, List.getElem?_toArray, hm]
  unfold mv
  rw [List.getElem?_append_right (by simp)]
  simpa using hv
theorem entry_ke {bs : List UInt8} (h : bs.length = 32) : KE (entry (kOf bs)) := ⟨bs, 0, h, by decide, by decide, rfl⟩

set_option maxRecDepth 100000 in
set_option maxHeartbeats 4000000 in
theorem mv_push_true {w : World} {lv A : Option Addr} {bt : Bool} {lg g gr r : Nat} {L : List (List Value)} {bs : List UInt8} (h : MS w lv true lg g gr r A L) (hL : L.length ≤ 1048400) (hbs : bs.length = 32) :
    Calls Try.prog 16 #[.pointer lv, .pointer (some ⟨r, 0, none⟩), .agg (mv 1 (!true) bt (kOf bs)).toArray] w fun e w' => e = .returned (.bool true) ∧ MPost w w' lv true lg g gr r L := by
  obtain ⟨nn, hnn⟩ : ∃ nn, nn = !true := ⟨_, rfl⟩
  rw [← hnn]
  obtain ⟨m, hm⟩ : ∃ m, m = mv 1 nn bt (kOf bs) := ⟨_, rfl⟩
  rw [← hm]
  have ha := Ar.start h m
  have c0 : (((w.alloc (.cells m.toArray 41)).alloc (.cells #[.int .u8 0, .int .u8 0, .int .u8 0, .int .u8 0, .int .u8 0, .int .u8 0, .int .u8 0, .int .u8 0, .int .u8 0, .int .u8 0, .int .u8 0, .int .u8 0, .int .u8 0, .int .u8 0, .int .u8 0, .int .u8 0, .int .u8 0, .int .u8 0, .int .u8 0, .int .u8 0, .int .u8 0, .int .u8 0, .int .u8 0, .int .u8 0, .int .u8 0, .int .u8 0, .int .u8 0, .int .u8 0, .int .u8 0, .int .u8 0, .int .u8 0, .int .u8 0, .int .i64 0] 89)).alloc (.cells #[.int .u8 0, .int .u8 0, .int .u8 0, .int .u8 0, .int .u8 0, .int .u8 0, .int .u8 0, .int .u8 0, .int .u8 0, .int .u8 0, .int .u8 0, .int .u8 0, .int .u8 0, .int .u8 0, .int .u8 0, .int .u8 0, .int .u8 0, .int .u8 0, .int .u8 0, .int .u8 0, .int .u8 0, .int .u8 0, .int .u8 0, .int .u8 0, .int .u8 0, .int .u8 0, .int .u8 0, .int .u8 0, .int .u8 0, .int .u8 0, .int .u8 0, .int .u8 0, .int .i64 0] 89)).cell? ⟨w.heap.size, 0, none⟩ = some (.int .i64 1) := by rw [ha.x.cell, hm]; rfl
  have HA := Lib.hid ha
  have HH := Lib.hid (And.intro h (And.intro hL (And.intro hbs (And.intro hm hnn))))
  clear ha h hL hbs hm hnn
  go_enter Try.func16, Try.ntmps16
  show Code.wp Try.prog (Code.seq (sL movC) (Code.seq (sL m1C) (Code.seq (sL m2C) (Code.seq (sL m3C) m4C)))) _ _ _
  refine wp_seq_k fun K0 hK0 => ?_
  have HK0 := Lib.hid hK0
  clear hK0
  conv => arg 2; whnf
  go_wp2_with fail
  refine HK0.out _ _ ?_
  clear HK0
  refine wp_seq_k fun K0 hK0 => ?_
  have HK0 := Lib.hid hK0
  clear hK0
  conv => arg 2; whnf
  go_wp2_with fail
  refine HK0.out _ _ ?_
  clear HK0
  refine wp_seq_k fun K0 hK0 => ?_
  have HK0 := Lib.hid hK0
  clear hK0
  conv => arg 2; whnf
  go_wp2_with fail
  refine HK0.out _ _ ?_
  clear HK0
  generalize (((w.alloc (.cells m.toArray 41)).alloc (.cells #[.int .u8 0, .int .u8 0, .int .u8 0, .int .u8 0, .int .u8 0, .int .u8 0, .int .u8 0, .int .u8 0, .int .u8 0, .int .u8 0, .int .u8 0, .int .u8 0, .int .u8 0, .int .u8 0, .int .u8 0, .int .u8 0, .int .u8 0, .int .u8 0, .int .u8 0, .int .u8 0, .int .u8 0, .int .u8 0, .int .u8 0, .int .u8 0, .int .u8 0, .int .u8 0, .int .u8 0, .int .u8 0, .int .u8 0, .int .u8 0, .int .u8 0, .int .u8 0, .int .i64 0] 89)).alloc (.cells #[.int .u8 0, .int .u8 0, .int .u8 0, .int .u8 0, .int .u8 0, .int .u8 0, .int .u8 0, .int .u8 0, .int .u8 0, .int .u8 0, .int .u8 0, .int .u8 0, .int .u8 0, .int .u8 0, .int .u8 0, .int .u8 0, .int .u8 0, .int .u8 0, .int .u8 0, .int .u8 0, .int .u8 0, .int .u8 0, .int .u8 0, .int .u8 0, .int .u8 0, .int .u8 0, .int .u8 0, .int .u8 0, .int .u8 0, .int .u8 0, .int .u8 0, .int .u8 0, .int .i64 0] 89)) = w1 at *
  have hs1 := HA.out.size
  have c2 : w1.cell? ⟨w.heap.size, 2, none⟩ = some (.bool bt) := by rw [HA.out.x.cell, HH.out.2.2.2.1]; rfl
  refine wp_seq_k fun K0 hK0 => ?_
  have HK0 := Lib.hid hK0
  clear hK0
  conv => arg 2; whnf
  have HPC := Lib.hid (show Calls _ _ #[.pointer lv, .agg (kOf bs).toArray] _ _ from HH.out.1.e ▸ push_l HA.out.p (kOf_key HH.out.2.2.1) (by have := HH.out.2.1; omega))
  go_wp2_with (first
    | (refine wpList_load_mid rfl 39 (.tmp 16) rfl w.heap.size 3 rfl (kOf bs) _ (key_range HA.out.x HH.out.2.2.2.1) Try.underlying39 rfl (key_infoG (kOf_key HH.out.2.2.1).1) ?_))
  refine HPC.out.mono ?_
  rintro e w2 ⟨rfl, gr', p2, n2, m2⟩
  have hn : ∀ b, w.heap.size ≤ b → ¬ pset true g gr b := fun b hb c => by have := HA.out.ps b c; omega
  have x2 := HA.out.x.mod m2 (hn _ (by omega))
  have r2 := HA.out.rf.put m2 HA.out.r_far (fun hl b o e => by
    rcases HA.out.row hl b o e with c | c
    · exact c.2
    · exact hn _ (by omega))
  have H2 := Lib.hid (And.intro x2 (And.intro (HA.out.a.mod m2 (hn _ (by omega))) (And.intro (HA.out.b.mod m2 (hn _ (by omega))) (And.intro p2 (And.intro r2 (And.intro n2 (HA.out.md.and_then (m2.mono (fun _ _ c => .inl c)))))))))
  have hs2 := m2.size
  have c1 : w2.cell? ⟨w.heap.size, 1, none⟩ = some (.bool false) := by rw [x2.cell, HH.out.2.2.2.1, HH.out.2.2.2.2]; rfl
  clear x2 r2 p2 n2 m2 HPC c0 c2 hn
  go_wp2_with (first
    | (refine wpList_load_mid rfl 39 (.tmp 23) rfl w.heap.size 3 rfl (kOf bs) _ (key_range H2.out.1 HH.out.2.2.2.1) Try.underlying39 rfl (key_infoG (kOf_key HH.out.2.2.1).1) ?_))
  refine (rpush_any H2.out.2.2.2.2.1 (by have := HH.out.2.1; omega) (kOf_key HH.out.2.2.1)).mono ?_
  rintro e w3 ⟨rfl, ⟨A', hA', hb'⟩, m3⟩
  have hf : ∀ b, w.heap.size ≤ b → ¬ one r b := fun b hb c => by have c : b = r := c; have := HA.out.rl; omega
  obtain ⟨cr, hbr, _⟩ := H2.out.2.2.2.2.1.at_
  have hpr := H2.out.2.2.2.1.far hbr (by decide) (by decide)
  have hlr : lg ≠ r := fun c => by
    have hl := H2.out.2.2.2.1.l rfl
    rw [c] at hl
    exact absurd (hl.same hbr).1 (by decide)
  have p3 := H2.out.2.2.2.1.mod m3 (fun e => ⟨hlr, fun c => hpr ⟨e, .inl c.symm⟩, fun c => hpr ⟨e, .inr c.symm⟩⟩)
  have H3 := Lib.hid (And.intro (H2.out.2.1.mod m3 (hf _ (by omega))) (And.intro (H2.out.2.2.1.mod m3 (hf _ (by omega))) (And.intro p3 (And.intro hA' (And.intro hb' (H2.out.2.2.2.2.2.2.and_then (m3.mono (fun _ _ c => .inr c))))))))
  clear hf hbr hpr hlr p3 hA' hb' m3 c1
  go_wp2_with fail
  refine HK0.out _ _ ?_
  clear HK0
  refine mtail H3.out.1 H3.out.2.1 zl_ke _ _ _ _ _ _ _ _ _ _ _ _ _ _ _ _ _ _ _ _ _ _ _ _ _ _ _ _ _ _ _ _ _ _ _ _ _ _ _ _ _ _ _ _ _ _ _ _ _ _ _ _ _ _ _ _ _ _ _ _ _ _ _ _ _ _ _ _ _ _ _ _ _ _ _ _ _ _ _ _ _ _ _ _ _ _ _ _ _ _ _ _ _ _ _ _ _ _ _ ?_
  intro u6 u94 u95 u96 u97 u98 u99 u100 u101 h6
  subst h6
  go_ret
  refine ⟨rfl, gr', A', L ++ [entry (kOf bs)], ⟨HH.out.1.e, H3.out.2.2.1, H3.out.2.2.2.1, fun y hy => ?_, fun hl b o e c => ?_⟩, by simp, ?_, H3.out.2.2.2.2.2⟩
  · rcases List.mem_append.1 hy with hy | hy
    · exact HH.out.1.k y hy
    · simp at hy; subst hy; exact entry_ke HH.out.2.2.1
  · have h1 := H3.out.2.2.2.2.1 b o e
    have h2 := H2.out.2.2.2.1.lt c
    omega
  · rcases H2.out.2.2.2.2.2.1 with n | n
    · exact .inl n
    · exact .inr (by omega)

set_option maxRecDepth 100000 in
set_option maxHeartbeats 4000000 in
theorem mv_push_false {w : World} {lv A : Option Addr} {bt : Bool} {lg g gr r : Nat} {L : List (List Value)} {bs : List UInt8} (h : MS w lv false lg g gr r A L) (hL : L.length ≤ 1048400) (hbs : bs.length = 32) :
    Calls Try.prog 16 #[.pointer lv, .pointer (some ⟨r, 0, none⟩), .agg (mv 1 (!false) bt (kOf bs)).toArray] w fun e w' => e = .returned (.bool true) ∧ MPost w w' lv false lg g gr r L := by
  obtain ⟨nn, hnn⟩ : ∃ nn, nn = !false := ⟨_, rfl⟩
  rw [← hnn]
  obtain ⟨m, hm⟩ : ∃ m, m = mv 1 nn bt (kOf bs) := ⟨_, rfl⟩
  rw [← hm]
  have ha := Ar.start h m
  have c0 : (((w.alloc (.cells m.toArray 41)).alloc (.cells #[.int .u8 0, .int .u8 0, .int .u8 0, .int .u8 0, .int .u8 0, .int .u8 0, .int .u8 0, .int .u8 0, .int .u8 0, .int .u8 0, .int .u8 0, .int .u8 0, .int .u8 0, .int .u8 0, .int .u8 0, .int .u8 0, .int .u8 0, .int .u8 0, .int .u8 0, .int .u8 0, .int .u8 0, .int .u8 0, .int .u8 0, .int .u8 0, .int .u8 0, .int .u8 0, .int .u8 0, .int .u8 0, .int .u8 0, .int .u8 0, .int .u8 0, .int .u8 0, .int .i64 0] 89)).alloc (.cells #[.int .u8 0, .int .u8 0, .int .u8 0, .int .u8 0, .int .u8 0, .int .u8 0, .int .u8 0, .int .u8 0, .int .u8 0, .int .u8 0, .int .u8 0, .int .u8 0, .int .u8 0, .int .u8 0, .int .u8 0, .int .u8 0, .int .u8 0, .int .u8 0, .int .u8 0, .int .u8 0, .int .u8 0, .int .u8 0, .int .u8 0, .int .u8 0, .int .u8 0, .int .u8 0, .int .u8 0, .int .u8 0, .int .u8 0, .int .u8 0, .int .u8 0, .int .u8 0, .int .i64 0] 89)).cell? ⟨w.heap.size, 0, none⟩ = some (.int .i64 1) := by rw [ha.x.cell, hm]; rfl
  have HA := Lib.hid ha
  have HH := Lib.hid (And.intro h (And.intro hL (And.intro hbs (And.intro hm hnn))))
  clear ha h hL hbs hm hnn
  go_enter Try.func16, Try.ntmps16
  show Code.wp Try.prog (Code.seq (sL movC) (Code.seq (sL m1C) (Code.seq (sL m2C) (Code.seq (sL m3C) m4C)))) _ _ _
  refine wp_seq_k fun K0 hK0 => ?_
  have HK0 := Lib.hid hK0
  clear hK0
  conv => arg 2; whnf
  go_wp2_with fail
  refine HK0.out _ _ ?_
  clear HK0
  refine wp_seq_k fun K0 hK0 => ?_
  have HK0 := Lib.hid hK0
  clear hK0
  conv => arg 2; whnf
  go_wp2_with fail
  refine HK0.out _ _ ?_
  clear HK0
  refine wp_seq_k fun K0 hK0 => ?_
  have HK0 := Lib.hid hK0
  clear hK0
  conv => arg 2; whnf
  go_wp2_with fail
  refine HK0.out _ _ ?_
  clear HK0
  generalize (((w.alloc (.cells m.toArray 41)).alloc (.cells #[.int .u8 0, .int .u8 0, .int .u8 0, .int .u8 0, .int .u8 0, .int .u8 0, .int .u8 0, .int .u8 0, .int .u8 0, .int .u8 0, .int .u8 0, .int .u8 0, .int .u8 0, .int .u8 0, .int .u8 0, .int .u8 0, .int .u8 0, .int .u8 0, .int .u8 0, .int .u8 0, .int .u8 0, .int .u8 0, .int .u8 0, .int .u8 0, .int .u8 0, .int .u8 0, .int .u8 0, .int .u8 0, .int .u8 0, .int .u8 0, .int .u8 0, .int .u8 0, .int .i64 0] 89)).alloc (.cells #[.int .u8 0, .int .u8 0, .int .u8 0, .int .u8 0, .int .u8 0, .int .u8 0, .int .u8 0, .int .u8 0, .int .u8 0, .int .u8 0, .int .u8 0, .int .u8 0, .int .u8 0, .int .u8 0, .int .u8 0, .int .u8 0, .int .u8 0, .int .u8 0, .int .u8 0, .int .u8 0, .int .u8 0, .int .u8 0, .int .u8 0, .int .u8 0, .int .u8 0, .int .u8 0, .int .u8 0, .int .u8 0, .int .u8 0, .int .u8 0, .int .u8 0, .int .u8 0, .int .i64 0] 89)) = w1 at *
  have hs1 := HA.out.size
  have c2 : w1.cell? ⟨w.heap.size, 2, none⟩ = some (.bool bt) := by rw [HA.out.x.cell, HH.out.2.2.2.1]; rfl
  refine wp_seq_k fun K0 hK0 => ?_
  have HK0 := Lib.hid hK0
  clear hK0
  conv => arg 2; whnf
  have HPC := Lib.hid (show Calls _ _ #[.pointer lv, .agg (kOf bs).toArray] _ _ from HH.out.1.e ▸ push_l HA.out.p (kOf_key HH.out.2.2.1) (by have := HH.out.2.1; omega))
  go_wp2_with (first
    | (refine wpList_load_mid rfl 39 (.tmp 16) rfl w.heap.size 3 rfl (kOf bs) _ (key_range HA.out.x HH.out.2.2.2.1) Try.underlying39 rfl (key_infoG (kOf_key HH.out.2.2.1).1) ?_))
  refine HPC.out.mono ?_
  rintro e w2 ⟨rfl, gr', p2, n2, m2⟩
  have hn : ∀ b, w.heap.size ≤ b → ¬ pset false g gr b := fun b hb c => by have := HA.out.ps b c; omega
  have x2 := HA.out.x.mod m2 (hn _ (by omega))
  have r2 := HA.out.rf.put m2 HA.out.r_far (fun hl b o e => by
    rcases HA.out.row hl b o e with c | c
    · exact c.2
    · exact hn _ (by omega))
  have H2 := Lib.hid (And.intro x2 (And.intro (HA.out.a.mod m2 (hn _ (by omega))) (And.intro (HA.out.b.mod m2 (hn _ (by omega))) (And.intro p2 (And.intro r2 (And.intro n2 (HA.out.md.and_then (m2.mono (fun _ _ c => .inl c)))))))))
  have hs2 := m2.size
  have c1 : w2.cell? ⟨w.heap.size, 1, none⟩ = some (.bool true) := by rw [x2.cell, HH.out.2.2.2.1, HH.out.2.2.2.2]; rfl
  clear x2 r2 p2 n2 m2 HPC c0 c2 hn
  go_wp2_with fail
  refine HK0.out _ _ ?_
  clear HK0
  refine mtail H2.out.2.1 H2.out.2.2.1 zl_ke _ _ _ _ _ _ _ _ _ _ _ _ _ _ _ _ _ _ _ _ _ _ _ _ _ _ _ _ _ _ _ _ _ _ _ _ _ _ _ _ _ _ _ _ _ _ _ _ _ _ _ _ _ _ _ _ _ _ _ _ _ _ _ _ _ _ _ _ _ _ _ _ _ _ _ _ _ _ _ _ _ _ _ _ _ _ _ _ _ _ _ _ _ _ _ _ _ _ _ ?_
  intro u6 u94 u95 u96 u97 u98 u99 u100 u101 h6
  subst h6
  go_ret
  refine ⟨rfl, gr', A, L, ⟨HH.out.1.e, H2.out.2.2.2.1, H2.out.2.2.2.2.1, HH.out.1.k, fun hl b o e c => absurd c.1 (by decide)⟩, by omega, ?_, H2.out.2.2.2.2.2.2⟩
  rcases H2.out.2.2.2.2.2.1 with n | n
  · exact .inl n
  · exact .inr (by omega)

theorem op_lenL {a : Act} {o : Oper} {w : World} {K : Act → World → Prop} {Q : Exit → Act → World → Prop} {x0 : Operand} {t0 : TypeId} {v0 : Value} {R : Ending → World → Prop} (ho : o.op = .call { callee := .value (.func 18), args := #[x0], argTypes := #[t0] }) (h0 : a.eval x0 = v0)
    (hC : Calls Try.prog 18 #[v0] w R) (hR : ∀ e w', R e w' → ∃ u, e = .returned u ∧ K (a.put o.dst u) w') : Oper.wp Try.prog o a w K Q := by
  have h : (execOp a.eval o).run Try.prog w = .ok (.enter 18 #[v0]) w := by
    have hf : a.eval (.func 18) = .func (.func 18) #[] #[] := rfl
    generalize a.eval = ev at h0 hf
    unfold execOp
    simp only [ho]
    go_simp
  unfold Oper.wp
  rw [h, Oper.upon_enter]
  refine hC.mono fun e w' hr => ?_
  obtain ⟨u, rfl, hk⟩ := hR e w' hr
  exact hk
theorem y_eqlI {a : Act} {o : Oper} {w : World} {x y : Operand} {n : Int} (ho : o.op = .binOp .eql 3 x y 3) (hx : a.eval x = .int .i64 n) (hy : a.eval y = .int .i64 n) : (execOp a.eval o).run Try.prog w = .ok (.value (.bool true)) w := by
  generalize a.eval = ev at hx hy
  unfold execOp
  simp only [ho, hx, hy]
  go_simp

set_option maxRecDepth 100000 in
set_option maxHeartbeats 4000000 in
theorem mv_len {w : World} {lv A : Option Addr} {live bt : Bool} {lg g gr r : Nat} {L : List (List Value)} {bs : List UInt8} (h : MS w lv live lg g gr r A L) (hL : L.length ≤ 1048400) (hbs : bs.length = 32) :
    Calls Try.prog 16 #[.pointer lv, .pointer (some ⟨r, 0, none⟩), .agg (mv 5 (!live) bt (kOf bs)).toArray] w fun e w' => e = .returned (.bool true) ∧ MPost w w' lv live lg g gr r L := by
  obtain ⟨nn, hnn⟩ : ∃ nn, nn = !live := ⟨_, rfl⟩
  rw [← hnn]
  obtain ⟨m, hm⟩ : ∃ m, m = mv 5 nn bt (kOf bs) := ⟨_, rfl⟩
  rw [← hm]
  have ha := Ar.start h m
  have c0 : (((w.alloc (.cells m.toArray 41)).alloc (.cells #[.int .u8 0, .int .u8 0, .int .u8 0, .int .u8 0, .int .u8 0, .int .u8 0, .int .u8 0, .int .u8 0, .int .u8 0, .int .u8 0, .int .u8 0, .int .u8 0, .int .u8 0, .int .u8 0, .int .u8 0, .int .u8 0, .int .u8 0, .int .u8 0, .int .u8 0, .int .u8 0, .int .u8 0, .int .u8 0, .int .u8 0, .int .u8 0, .int .u8 0, .int .u8 0, .int .u8 0, .int .u8 0, .int .u8 0, .int .u8 0, .int .u8 0, .int .u8 0, .int .i64 0] 89)).alloc (.cells #[.int .u8 0, .int .u8 0, .int .u8 0, .int .u8 0, .int .u8 0, .int .u8 0, .int .u8 0, .int .u8 0, .int .u8 0, .int .u8 0, .int .u8 0, .int .u8 0, .int .u8 0, .int .u8 0, .int .u8 0, .int .u8 0, .int .u8 0, .int .u8 0, .int .u8 0, .int .u8 0, .int .u8 0, .int .u8 0, .int .u8 0, .int .u8 0, .int .u8 0, .int .u8 0, .int .u8 0, .int .u8 0, .int .u8 0, .int .u8 0, .int .u8 0, .int .u8 0, .int .i64 0] 89)).cell? ⟨w.heap.size, 0, none⟩ = some (.int .i64 5) := by rw [ha.x.cell, hm]; rfl
  have HA := Lib.hid ha
  have HH := Lib.hid (And.intro h (And.intro hL (And.intro hbs (And.intro hm hnn))))
  clear ha h hL hbs hm hnn
  go_enter Try.func16, Try.ntmps16
  show Code.wp Try.prog (Code.seq (sL movC) (Code.seq (sL m1C) (Code.seq (sL m2C) (Code.seq (sL m3C) m4C)))) _ _ _
  refine wp_seq_k fun K0 hK0 => ?_
  have HK0 := Lib.hid hK0
  clear hK0
  conv => arg 2; whnf
  go_wp2_with fail
  refine HK0.out _ _ ?_
  clear HK0
  refine wp_seq_k fun K0 hK0 => ?_
  have HK0 := Lib.hid hK0
  clear hK0
  conv => arg 2; whnf
  go_wp2_with fail
  refine HK0.out _ _ ?_
  clear HK0
  refine wp_seq_k fun K0 hK0 => ?_
  have HK0 := Lib.hid hK0
  clear hK0
  conv => arg 2; whnf
  go_wp2_with fail
  refine HK0.out _ _ ?_
  clear HK0
  generalize (((w.alloc (.cells m.toArray 41)).alloc (.cells #[.int .u8 0, .int .u8 0, .int .u8 0, .int .u8 0, .int .u8 0, .int .u8 0, .int .u8 0, .int .u8 0, .int .u8 0, .int .u8 0, .int .u8 0, .int .u8 0, .int .u8 0, .int .u8 0, .int .u8 0, .int .u8 0, .int .u8 0, .int .u8 0, .int .u8 0, .int .u8 0, .int .u8 0, .int .u8 0, .int .u8 0, .int .u8 0, .int .u8 0, .int .u8 0, .int .u8 0, .int .u8 0, .int .u8 0, .int .u8 0, .int .u8 0, .int .u8 0, .int .i64 0] 89)).alloc (.cells #[.int .u8 0, .int .u8 0, .int .u8 0, .int .u8 0, .int .u8 0, .int .u8 0, .int .u8 0, .int .u8 0, .int .u8 0, .int .u8 0, .int .u8 0, .int .u8 0, .int .u8 0, .int .u8 0, .int .u8 0, .int .u8 0, .int .u8 0, .int .u8 0, .int .u8 0, .int .u8 0, .int .u8 0, .int .u8 0, .int .u8 0, .int .u8 0, .int .u8 0, .int .u8 0, .int .u8 0, .int .u8 0, .int .u8 0, .int .u8 0, .int .u8 0, .int .u8 0, .int .i64 0] 89)) = w1 at *
  have hs1 := HA.out.size
  have c2 : w1.cell? ⟨w.heap.size, 2, none⟩ = some (.bool bt) := by rw [HA.out.x.cell, HH.out.2.2.2.1]; rfl
  refine wp_seq_k fun K0 hK0 => ?_
  have HK0 := Lib.hid hK0
  clear hK0
  conv => arg 2; whnf
  have HPC := Lib.hid (show ∀ w', Mod no w1 w' → Calls Try.prog 18 #[.pointer lv] w' fun e w2 => e = .returned (.int .i64 (L.length : Int)) ∧ w' = w2 from fun w' m => HH.out.1.e ▸ len_l (HA.out.p.mod_no m))
  obtain ⟨cr, hbr, _⟩ := HA.out.rf.at_
  have HR := Lib.hid hbr
  clear hbr
  go_wp2_with fail
  rename_i K1 hK1
  refine Code.wp_mono (Q := RetP K1) (fun e a w q => by cases e <;> first | exact q | exact q.elim) ?_
  have HK1 := Lib.hid hK1
  clear hK1
  go_wp2_with fail
  have m1 : Mod no w1 w1.drew := (Mod.refl no w1).drew
  refine wp_region_held_drew (S := fun w' => Blk w' r 37 #[.slice A L.length cr]) (by kernel_rfl) HR.out.drew (fun hHeld => ?_)
  refine takeD (i := 0) (d := some 81) (v := (.pointer lv)) rfl (by kernel_rfl) (by kernel_rfl) (by kernel_rfl) rfl (fun _ _ _ h => h) (Or.inl ⟨by kernel_rfl, fun w9 hw => y_move rfl rfl⟩) hHeld ?_
  simp only [Act.put, List.setIfInBounds_toArray, List.set_cons_zero, List.set_cons_succ]
  refine takeD (i := 2) (d := some 83) (v := (.pointer (some ⟨r, 0, none⟩))) rfl (by kernel_rfl) (by kernel_rfl) (by kernel_rfl) rfl (fun _ _ _ h => h) (Or.inl ⟨by kernel_rfl, fun w9 hw => y_move rfl rfl⟩) hHeld ?_
  simp only [Act.put, List.setIfInBounds_toArray, List.set_cons_zero, List.set_cons_succ]
  refine takeD (i := 3) (d := some 84) (v := (.pointer (some ⟨r, 0, none⟩))) rfl (by kernel_rfl) (by kernel_rfl) (by kernel_rfl) rfl (fun _ _ _ h => h) (Or.inl ⟨by kernel_rfl, fun w9 hw => y_nil rfl rfl⟩) hHeld ?_
  simp only [Act.put, List.setIfInBounds_toArray, List.set_cons_zero, List.set_cons_succ]
  refine takeD (i := 4) (d := some 85) (v := (.pointer (some ⟨r, 0, none⟩))) rfl (by kernel_rfl) (by kernel_rfl) (by kernel_rfl) rfl (fun _ _ _ h => h) (Or.inl ⟨by kernel_rfl, fun w9 hw => y_reff rfl rfl⟩) hHeld ?_
  simp only [Act.put, List.setIfInBounds_toArray, List.set_cons_zero, List.set_cons_succ]
  refine takeD (i := 5) (d := some 86) (v := (.slice A L.length cr)) rfl (by kernel_rfl) (by kernel_rfl) (by kernel_rfl) rfl (fun _ _ _ h => h) (Or.inl ⟨by kernel_rfl, fun w9 hw => y_load rfl (.inr rfl) rfl (by rw [hw.cell]; rfl) rfl⟩) hHeld ?_
  simp only [Act.put, List.setIfInBounds_toArray, List.set_cons_zero, List.set_cons_succ]
  refine takeD (i := 6) (d := some 87) (v := (.int .i64 (L.length : Int))) rfl (by kernel_rfl) (by kernel_rfl) (by kernel_rfl) rfl (fun _ _ _ h => h) (Or.inl ⟨by kernel_rfl, fun w9 hw => y_len rfl rfl⟩) hHeld ?_
  simp only [Act.put, List.setIfInBounds_toArray, List.set_cons_zero, List.set_cons_succ]
  refine readyD (i := 1) (d := some 82) rfl (by kernel_rfl) rfl (by kernel_rfl) fun K hK => ?_
  refine op_lenL rfl rfl (HPC.out _ m1) ?_
  rintro e w3 ⟨rfl, rfl⟩
  refine ⟨_, rfl, hK _ _ hHeld fun _ => ?_⟩
  clear hK K
  simp only [Act.put, List.setIfInBounds_toArray, List.set_cons_zero, List.set_cons_succ]
  refine takeD (i := 7) (d := some 88) (v := (.bool true)) rfl (by kernel_rfl) (by kernel_rfl) (by kernel_rfl) rfl (fun _ _ _ h => h) (Or.inl ⟨by kernel_rfl, fun w9 hw => y_eqlI rfl rfl rfl⟩) hHeld ?_
  simp only [Act.put, List.setIfInBounds_toArray, List.set_cons_zero, List.set_cons_succ]
  refine takeD (i := 8) (d := some 6) (v := (.bool true)) rfl (by kernel_rfl) (by kernel_rfl) (by kernel_rfl) rfl (fun _ _ _ h => h) (Or.inl ⟨by kernel_rfl, fun w9 hw => y_assign rfl rfl⟩) hHeld ?_
  simp only [Act.put, List.setIfInBounds_toArray, List.set_cons_zero, List.set_cons_succ]
  refine wpAnyH_done (by kernel_rfl) ?_ _
  refine HK1.out _ _ ?_
  go_wp2_with fail
  go_ret
  exact ⟨rfl, (HA.out.mod_no m1).fin HH.out.1.e HH.out.1.k (by omega)⟩

set_option maxRecDepth 100000 in
set_option maxHeartbeats 4000000 in
theorem mv_all {w : World} {lv A : Option Addr} {live bt : Bool} {lg g gr r : Nat} {L : List (List Value)} {bs : List UInt8} (h : MS w lv live lg g gr r A L) (hL : L.length ≤ 1048400) (hbs : bs.length = 32) :
    Calls Try.prog 16 #[.pointer lv, .pointer (some ⟨r, 0, none⟩), .agg (mv 6 (!live) bt (kOf bs)).toArray] w fun e w' => e = .returned (.bool true) ∧ MPost w w' lv live lg g gr r L := by
  obtain ⟨nn, hnn⟩ : ∃ nn, nn = !live := ⟨_, rfl⟩
  rw [← hnn]
  obtain ⟨m, hm⟩ : ∃ m, m = mv 6 nn bt (kOf bs) := ⟨_, rfl⟩
  rw [← hm]
  have ha := Ar.start h m
  have c0 : (((w.alloc (.cells m.toArray 41)).alloc (.cells #[.int .u8 0, .int .u8 0, .int .u8 0, .int .u8 0, .int .u8 0, .int .u8 0, .int .u8 0, .int .u8 0, .int .u8 0, .int .u8 0, .int .u8 0, .int .u8 0, .int .u8 0, .int .u8 0, .int .u8 0, .int .u8 0, .int .u8 0, .int .u8 0, .int .u8 0, .int .u8 0, .int .u8 0, .int .u8 0, .int .u8 0, .int .u8 0, .int .u8 0, .int .u8 0, .int .u8 0, .int .u8 0, .int .u8 0, .int .u8 0, .int .u8 0, .int .u8 0, .int .i64 0] 89)).alloc (.cells #[.int .u8 0, .int .u8 0, .int .u8 0, .int .u8 0, .int .u8 0, .int .u8 0, .int .u8 0, .int .u8 0, .int .u8 0, .int .u8 0, .int .u8 0, .int .u8 0, .int .u8 0, .int .u8 0, .int .u8 0, .int .u8 0, .int .u8 0, .int .u8 0, .int .u8 0, .int .u8 0, .int .u8 0, .int .u8 0, .int .u8 0, .int .u8 0, .int .u8 0, .int .u8 0, .int .u8 0, .int .u8 0, .int .u8 0, .int .u8 0, .int .u8 0, .int .u8 0, .int .i64 0] 89)).cell? ⟨w.heap.size, 0, none⟩ = some (.int .i64 6) := by rw [ha.x.cell, hm]; rfl
  have HA := Lib.hid ha
  have HH := Lib.hid (And.intro h (And.intro hL (And.intro hbs (And.intro hm hnn))))
  clear ha h hL hbs hm hnn
  go_enter Try.func16, Try.ntmps16
  show Code.wp Try.prog (Code.seq (sL movC) (Code.seq (sL m1C) (Code.seq (sL m2C) (Code.seq (sL m3C) m4C)))) _ _ _
  refine wp_seq_k fun K0 hK0 => ?_
  have HK0 := Lib.hid hK0
  clear hK0
  conv => arg 2; whnf
  go_wp2_with fail
  refine HK0.out _ _ ?_
  clear HK0
  refine wp_seq_k fun K0 hK0 => ?_
  have HK0 := Lib.hid hK0
  clear hK0
  conv => arg 2; whnf
  go_wp2_with fail
  refine HK0.out _ _ ?_
  clear HK0
  refine wp_seq_k fun K0 hK0 => ?_
  have HK0 := Lib.hid hK0
  clear hK0
  conv => arg 2; whnf
  go_wp2_with fail
  refine HK0.out _ _ ?_
  clear HK0
  generalize (((w.alloc (.cells m.toArray 41)).alloc (.cells #[.int .u8 0, .int .u8 0, .int .u8 0, .int .u8 0, .int .u8 0, .int .u8 0, .int .u8 0, .int .u8 0, .int .u8 0, .int .u8 0, .int .u8 0, .int .u8 0, .int .u8 0, .int .u8 0, .int .u8 0, .int .u8 0, .int .u8 0, .int .u8 0, .int .u8 0, .int .u8 0, .int .u8 0, .int .u8 0, .int .u8 0, .int .u8 0, .int .u8 0, .int .u8 0, .int .u8 0, .int .u8 0, .int .u8 0, .int .u8 0, .int .u8 0, .int .u8 0, .int .i64 0] 89)).alloc (.cells #[.int .u8 0, .int .u8 0, .int .u8 0, .int .u8 0, .int .u8 0, .int .u8 0, .int .u8 0, .int .u8 0, .int .u8 0, .int .u8 0, .int .u8 0, .int .u8 0, .int .u8 0, .int .u8 0, .int .u8 0, .int .u8 0, .int .u8 0, .int .u8 0, .int .u8 0, .int .u8 0, .int .u8 0, .int .u8 0, .int .u8 0, .int .u8 0, .int .u8 0, .int .u8 0, .int .u8 0, .int .u8 0, .int .u8 0, .int .u8 0, .int .u8 0, .int .u8 0, .int .i64 0] 89)) = w1 at *
  have hs1 := HA.out.size
  have c2 : w1.cell? ⟨w.heap.size, 2, none⟩ = some (.bool bt) := by rw [HA.out.x.cell, HH.out.2.2.2.1]; rfl
  refine wp_seq_k fun K0 hK0 => ?_
  have HK0 := Lib.hid hK0
  clear hK0
  conv => arg 2; whnf
  have HPC := Lib.hid (own_l (show Two w1 lv live lg g gr r A L from ⟨HH.out.1.e, HA.out.p, HA.out.rf, HH.out.1.k, by have := HH.out.2.1; omega⟩))
  go_wp2_with fail
  refine HPC.out.mono ?_
  rintro e w2 ⟨rfl, m2⟩
  have HA2 := Lib.hid (HA.out.mod_no m2)
  clear m2
  go_wp2_with fail
  go_ret
  exact ⟨rfl, HA2.out.fin HH.out.1.e HH.out.1.k (by omega)⟩

set_option maxRecDepth 100000 in
set_option maxHeartbeats 4000000 in
theorem mv_else {w : World} {lv A : Option Addr} {live bt : Bool} {lg g gr r : Nat} {L : List (List Value)} {bs : List UInt8} {kd : Int} (h : MS w lv live lg g gr r A L) (hL : L.length ≤ 1048400) (hbs : bs.length = 32) (h1 : ¬ kd = 1) (h2 : ¬ kd = 2) (h3 : ¬ kd = 3) (h4 : ¬ kd = 4) (h5 : ¬ kd = 5) (h6 : ¬ kd = 6) :
    Calls Try.prog 16 #[.pointer lv, .pointer (some ⟨r, 0, none⟩), .agg (mv kd (!live) bt (kOf bs)).toArray] w fun e w' => e = .returned (.bool true) ∧ MPost w w' lv live lg g gr r L := by
  obtain ⟨nn, hnn⟩ : ∃ nn, nn = !live := ⟨_, rfl⟩
  rw [← hnn]
  obtain ⟨m, hm⟩ : ∃ m, m = mv kd nn bt (kOf bs) := ⟨_, rfl⟩
  rw [← hm]
  have ha := Ar.start h m
  have c0 : (((w.alloc (.cells m.toArray 41)).alloc (.cells #[.int .u8 0, .int .u8 0, .int .u8 0, .int .u8 0, .int .u8 0, .int .u8 0, .int .u8 0, .int .u8 0, .int .u8 0, .int .u8 0, .int .u8 0, .int .u8 0, .int .u8 0, .int .u8 0, .int .u8 0, .int .u8 0, .int .u8 0, .int .u8 0, .int .u8 0, .int .u8 0, .int .u8 0, .int .u8 0, .int .u8 0, .int .u8 0, .int .u8 0, .int .u8 0, .int .u8 0, .int .u8 0, .int .u8 0, .int .u8 0, .int .u8 0, .int .u8 0, .int .i64 0] 89)).alloc (.cells #[.int .u8 0, .int .u8 0, .int .u8 0, .int .u8 0, .int .u8 0, .int .u8 0, .int .u8 0, .int .u8 0, .int .u8 0, .int .u8 0, .int .u8 0, .int .u8 0, .int .u8 0, .int .u8 0, .int .u8 0, .int .u8 0, .int .u8 0, .int .u8 0, .int .u8 0, .int .u8 0, .int .u8 0, .int .u8 0, .int .u8 0, .int .u8 0, .int .u8 0, .int .u8 0, .int .u8 0, .int .u8 0, .int .u8 0, .int .u8 0, .int .u8 0, .int .u8 0, .int .i64 0] 89)).cell? ⟨w.heap.size, 0, none⟩ = some (.int .i64 kd) := by rw [ha.x.cell, hm]; rfl
  have HA := Lib.hid ha
  have HH := Lib.hid (And.intro h (And.intro hL (And.intro hbs (And.intro hm hnn))))
  clear ha h hL hbs hm hnn
  go_enter Try.func16, Try.ntmps16
  show Code.wp Try.prog (Code.seq (sL movC) (Code.seq (sL m1C) (Code.seq (sL m2C) (Code.seq (sL m3C) m4C)))) _ _ _
  refine wp_seq_k fun K0 hK0 => ?_
  have HK0 := Lib.hid hK0
  clear hK0
  conv => arg 2; whnf
  go_wp2_with fail
  refine HK0.out _ _ ?_
  clear HK0
  refine wp_seq_k fun K0 hK0 => ?_
  have HK0 := Lib.hid hK0
  clear hK0
  conv => arg 2; whnf
  go_wp2_with fail
  refine HK0.out _ _ ?_
  clear HK0
  refine wp_seq_k fun K0 hK0 => ?_
  have HK0 := Lib.hid hK0
  clear hK0
  conv => arg 2; whnf
  go_wp2_with fail
  refine HK0.out _ _ ?_
  clear HK0
  generalize (((w.alloc (.cells m.toArray 41)).alloc (.cells #[.int .u8 0, .int .u8 0, .int .u8 0, .int .u8 0, .int .u8 0, .int .u8 0, .int .u8 0, .int .u8 0, .int .u8 0, .int .u8 0, .int .u8 0, .int .u8 0, .int .u8 0, .int .u8 0, .int .u8 0, .int .u8 0, .int .u8 0, .int .u8 0, .int .u8 0, .int .u8 0, .int .u8 0, .int .u8 0, .int .u8 0, .int .u8 0, .int .u8 0, .int .u8 0, .int .u8 0, .int .u8 0, .int .u8 0, .int .u8 0, .int .u8 0, .int .u8 0, .int .i64 0] 89)).alloc (.cells #[.int .u8 0, .int .u8 0, .int .u8 0, .int .u8 0, .int .u8 0, .int .u8 0, .int .u8 0, .int .u8 0, .int .u8 0, .int .u8 0, .int .u8 0, .int .u8 0, .int .u8 0, .int .u8 0, .int .u8 0, .int .u8 0, .int .u8 0, .int .u8 0, .int .u8 0, .int .u8 0, .int .u8 0, .int .u8 0, .int .u8 0, .int .u8 0, .int .u8 0, .int .u8 0, .int .u8 0, .int .u8 0, .int .u8 0, .int .u8 0, .int .u8 0, .int .u8 0, .int .i64 0] 89)) = w1 at *
  have hs1 := HA.out.size
  have c2 : w1.cell? ⟨w.heap.size, 2, none⟩ = some (.bool bt) := by rw [HA.out.x.cell, HH.out.2.2.2.1]; rfl
  refine wp_seq_k fun K0 hK0 => ?_
  have HK0 := Lib.hid hK0
  clear hK0
  conv => arg 2; whnf
  go_wp2_with fail
  refine HK0.out _ _ ?_
  clear HK0
  refine mtail HA.out.a HA.out.b zl_ke _ _ _ _ _ _ _ _ _ _ _ _ _ _ _ _ _ _ _ _ _ _ _ _ _ _ _ _ _ _ _ _ _ _ _ _ _ _ _ _ _ _ _ _ _ _ _ _ _ _ _ _ _ _ _ _ _ _ _ _ _ _ _ _ _ _ _ _ _ _ _ _ _ _ _ _ _ _ _ _ _ _ _ _ _ _ _ _ _ _ _ _ _ _ _ _ _ _ _ ?_
  intro u6 u94 u95 u96 u97 u98 u99 u100 u101 h6
  subst h6
  go_ret
  exact ⟨rfl, HA.out.fin HH.out.1.e HH.out.1.k (by omega)⟩

/-- Every call of the script. -/
theorem moves_l {w : World} {lv A : Option Addr} {live bt : Bool} {lg g gr r : Nat} {L : List (List Value)} {bs : List UInt8} {kd : Int} (h : MS w lv live lg g gr r A L) (hL : L.length ≤ 1048400) (hbs : bs.length = 32) :
    Calls Try.prog 16 #[.pointer lv, .pointer (some ⟨r, 0, none⟩), .agg (mv kd (!live) bt (kOf bs)).toArray] w fun e w' => e = .returned (.bool true) ∧ MPost w w' lv live lg g gr r L := by
  by_cases h1 : kd = 1
  · subst h1
    cases live
    · exact mv_push_false h hL hbs
    · exact mv_push_true h hL hbs
  by_cases h2 : kd = 2
  · subst h2
    cases bt
    · exact mv_at_false h hL hbs
    · exact mv_at_true h hL hbs
  by_cases h3 : kd = 3
  · subst h3; exact mv_bump h hL hbs
  by_cases h4 : kd = 4
  · subst h4; exact mv_pop h hL hbs
  by_cases h5 : kd = 5
  · subst h5; exact mv_len h hL hbs
  by_cases h6 : kd = 6
  · subst h6; exact mv_all h hL hbs
  exact mv_else h hL hbs h1 h2 h3 h4 h5 h6

end Go.Proofs.Ytknbehjhaaidoaa.DG
