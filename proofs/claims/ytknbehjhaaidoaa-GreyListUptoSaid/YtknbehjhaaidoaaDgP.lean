/- The row with two ends, of work list's entries: a function at a time. -/
import Derived.Test.YtknbehjhaaidoaaDgI
import Derived.OwnWalk
namespace Go.Proofs.Ytknbehjhaaidoaa.DG
open Go.RowKit Mem DQ
set_option linter.unusedVariables false
set_option linter.unusedSimpArgs false

set_option maxRecDepth 100000 in
theorem there_any {w : World} {g : Nat} {v1 v2 v3 : Value} (h : Blk w g 121 #[.bool true, v1, v2, v3]) :
    Calls Try.prog 82 #[.pointer (some ⟨g, 0, none⟩)] w fun e w' => e = .returned (.bool true) ∧ w = w' := by
  have c0 := h.cell 0
  simp at c0
  go_enter Try.func82, Try.ntmps82
  go_wp2_with fail
  go_ret
  exact ⟨rfl, rfl⟩

set_option maxRecDepth 100000 in
theorem len_any {w : World} {g gr f : Nat} {C L : List (List Value)} (h : DgAt w g gr C f L) :
    Calls Try.prog 49 #[.pointer (some ⟨g, 0, none⟩)] w fun e w' => e = .returned (.int .i64 (L.length : Int)) ∧ w = w' := by
  have c3 := h.d.cell 3
  simp at c3
  have HD := Lib.hid h.d
  clear h
  go_enter Try.func49, Try.ntmps49
  go_wp2_with (go_at_call 82; refine (there_any HD.out).mono ?_; rintro e w' ⟨rfl, rfl⟩)
  go_ret
  exact ⟨rfl, rfl⟩

theorem cast_place {f i R : Nat} : ((f : Int) + (i : Int)) % (R : Int) = (((f + i) % R : Nat) : Int) := by push_cast; rfl

set_option maxRecDepth 100000 in
theorem place_any {w : World} {g f i R p : Nat} {v0 v3 : Value} {A : Option Addr} (hp : p = (f + i) % R) (h : Blk w g 121 #[v0, .slice A R R, .int .i64 (f : Int), v3]) (hf : f ≤ 10000000) (hi : i ≤ 10000000) (hR : 0 < R) (hR2 : R ≤ 10000000) :
    Calls Try.prog 100 #[.pointer (some ⟨g, 0, none⟩), .int .i64 (i : Int)] w fun e w' => e = .returned (.int .i64 (p : Int)) ∧ ∃ n, w' = w.drewN n := by
  have c1 := h.cell 1
  have c2 := h.cell 2
  simp at c1 c2
  have hw : wrap64 ((f : Int) + (i : Int)) = (f : Int) + (i : Int) := IntWalk.wrap64_in _ (by omega)
  have hz : ¬ R = 0 := by omega
  have HP := Lib.hid hp
  have HX := Lib.hid (And.intro hf (And.intro hi (And.intro hR hR2)))
  clear hf hi hR hR2 hp
  go_enter Try.func100, Try.ntmps100
  go_wp2_with fail
  go_quiet (fail)
  go_wp2_with fail
  go_ret
  refine ⟨?_, nq, rfl⟩
  show Ending.returned (.int .i64 (((f : Int) + (i : Int)) % (R : Int))) = _
  rw [cast_place, ← HP.out]


def two (g k : Nat) : Nat → Prop := fun b => b = g ∨ b = k

/-! ### Operations, one lemma a kind -/
section
variable {a : Act} {o : Oper} {w w' : World}
theorem y_move {x : Operand} {v : Value} (ho : o.op = .move x) (hx : a.eval x = v) : (execOp a.eval o).run Try.prog w = .ok (.value v) w := by
  unfold execOp
  simp only [ho, Sem.run_bind, Sem.run_pure, Result.andThen_ok, hx]
theorem y_nil {x : Operand} {p : Addr} (ho : o.op = .nilCheck x) (hx : a.eval x = .pointer (some p)) : (execOp a.eval o).run Try.prog w = .ok (.value (.pointer (some p))) w := by
  generalize a.eval = ev at hx
  unfold execOp
  simp only [ho, hx]
  go_simp
theorem y_ring {x : Operand} {g : Nat} (ho : o.op = .fieldAddr 121 x 1) (hx : a.eval x = .pointer (some ⟨g, 0, none⟩)) : (execOp a.eval o).run Try.prog w = .ok (.value (.pointer (some ⟨g, 1, none⟩))) w := by
  generalize a.eval = ev at hx
  unfold execOp
  simp only [ho, hx]
  go_simp
theorem y_size {x : Operand} {g : Nat} (ho : o.op = .fieldAddr 121 x 3) (hx : a.eval x = .pointer (some ⟨g, 0, none⟩)) : (execOp a.eval o).run Try.prog w = .ok (.value (.pointer (some ⟨g, 3, none⟩))) w := by
  generalize a.eval = ev at hx
  unfold execOp
  simp only [ho, hx]
  go_simp
theorem y_load {x : Operand} {t : TypeId} {p : Addr} {v : Value} (ho : o.op = .load t x) (ht : t = 3 ∨ t = 35) (hx : a.eval x = .pointer (some p)) (hc : w.cell? p = some v) (hv : v.oneCell' = true) : (execOp a.eval o).run Try.prog w = .ok (.value v) w := by
  generalize a.eval = ev at hx
  unfold execOp
  rcases ht with rfl | rfl
  · simp only [ho, hx]
    go_simp
  · simp only [ho, hx]
    go_simp
theorem grey_info {cs : List Value} (h : cs.length = 33) : (Try.prog.info? 89).map (·.size) = some cs.length := by rw [h]; kernel_rfl
theorem y_mid {x : Operand} {b o' : Nat} {cs : List Value} (ho : o.op = .load 89 x) (hx : a.eval x = .pointer (some ⟨b, o', none⟩)) (hr : w.rangeAt b o' cs) (hl : cs.length = 33) : (execOp a.eval o).run Try.prog w = .ok (.value (.agg cs.toArray)) w := by
  generalize a.eval = ev at hx
  unfold execOp
  simp only [ho, hx, Sem.run_bind, run_loadAt_mid w b o' 89 cs _ hr Try.underlying89 rfl (grey_info hl), Result.andThen_ok, Sem.run_pure]
theorem y_index {x y : Operand} {gr R p : Nat} (ho : o.op = .indexAddr 35 x y) (hx : a.eval x = .slice (some ⟨gr, 0, none⟩) R R) (hy : a.eval y = .int .i64 (p : Int)) (hp : p < R) : (execOp a.eval o).run Try.prog w = .ok (.value (.pointer (some ⟨gr, p * 33, none⟩))) w := by
  have hp0 : (0 : Int) ≤ (p : Int) := by omega
  have hpi : (p : Int) < (R : Int) := by omega
  generalize a.eval = ev at hx hy
  unfold execOp
  simp only [ho, hx, hy]
  go_simp
theorem op_yield {v : Value} {K : Act → World → Prop} {Q : Exit → Act → World → Prop} (h : (execOp a.eval o).run Try.prog w = .ok (.value v) w') (hK : K (a.put o.dst v) w') : Oper.wp Try.prog o a w K Q := by
  unfold Oper.wp
  rw [h]
  exact hK
theorem op_place {K : Act → World → Prop} {Q : Exit → Act → World → Prop} {x y : Operand} {t t' : TypeId} {u v : Value} {R : Ending → World → Prop} (ho : o.op = .call { callee := .value (.func 100), args := #[x, y], argTypes := #[t, t'] }) (hx : a.eval x = u) (hy : a.eval y = v)
    (hC : Calls Try.prog 100 #[u, v] w R) (hR : ∀ e w', R e w' → ∃ u, e = .returned u ∧ K (a.put o.dst u) w') : Oper.wp Try.prog o a w K Q := by
  have h : (execOp a.eval o).run Try.prog w = .ok (.enter 100 #[u, v]) w := by
    have hf : a.eval (.func 100) = .func (.func 100) #[] #[] := rfl
    generalize a.eval = ev at hx hy hf
    unfold execOp
    simp only [ho]
    go_simp
  unfold Oper.wp
  rw [h, Oper.upon_enter]
  refine hC.mono fun e w' hr => ?_
  obtain ⟨u, rfl, hk⟩ := hR e w' hr
  exact hk
/-- RegionHeld's laws, the slot told apart from the operation. -/
theorem takeD {ops : Array Oper} {Q : Exit → Act → World → Prop} {md : Region.Mode} {S : World → Prop} {i : Nat} {oi : Oper} {d : Option Tmp} {v : Value} {fuel : Nat} {listed : Array Bool} (hi : ops[i]? = some oi)
    (hs : Region.noSelect ops = true) (hf : Region.free md ops listed i = true) (hr : (Region.ready md ops listed).contains i = true) (hd : oi.dst = d)
    (hQ : ∀ c a w, Q (.panic c) (a.put d v) w → Q (.panic c) a w) (hy : YieldsIf Try.prog ops S oi v a) (hS : S w)
    (h : wpAnyH Try.prog md ops Q S fuel (listed.setIfInBounds i true) (a.put d v) w) : wpAnyH Try.prog md ops Q S (fuel + 1) listed a w := by
  subst hd
  exact wpAnyH_take hi hs hf hr hQ hy hS h
theorem readyD {ops : Array Oper} {Q : Exit → Act → World → Prop} {md : Region.Mode} {S : World → Prop} {i : Nat} {oi : Oper} {d : Option Tmp} {fuel : Nat} {listed : Array Bool} (hi : ops[i]? = some oi) (hr : Region.ready md ops listed = [i]) (hd : oi.dst = d)
    (hw : Region.wanted oi (yielded ops a.tmps) = true)
    (h : ∀ K : Act → World → Prop, (∀ (u : Value) (w' : World), S w' → (S w' → wpAnyH Try.prog md ops Q S fuel (listed.setIfInBounds i true) (a.put d u) w') → K (a.put oi.dst u) w') → Oper.wp Try.prog oi a w K Q) : wpAnyH Try.prog md ops Q S (fuel + 1) listed a w := by
  subst hd
  refine wpAnyH_ready hr (by simp) (AllReadyH.cons hi (fun K hK => ?_) AllReadyH.nil)
  rw [if_pos hw]
  exact h K fun u w' h1 h2 => hK.out _ _ h1 h2
end

end Go.Proofs.Ytknbehjhaaidoaa.DG
