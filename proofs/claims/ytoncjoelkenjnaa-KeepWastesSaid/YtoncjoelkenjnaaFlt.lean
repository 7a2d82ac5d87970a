/- Real numbers up to the bits of NaN: what the operations give, in a walk. -/
import Derived.Test.YtoncjoelkenjnaaChecked
import Derived.Test.YtoncjoelkenjnaaMem
import Derived.Laws.FloatArith
namespace Go.Proofs.Ytoncjoelkenjnaa.FL
open Go.RowKit Mem
set_option linter.unusedVariables false
set_option linter.unusedSimpArgs false

def nanB (x : Nat) : Prop := ∃ s t, Ieee.double.read x = .nan s t
/-- The same number; or both are NaN. -/
def Sim (x y : Nat) : Prop := x = y ∨ (nanB x ∧ nanB y)
theorem Sim.refl (x : Nat) : Sim x x := .inl rfl
theorem Sim.symm {x y : Nat} (h : Sim x y) : Sim y x := h.elim (fun e => .inl e.symm) fun h => .inr ⟨h.2, h.1⟩
theorem Sim.trans {x y z : Nat} (h : Sim x y) (h' : Sim y z) : Sim x z := by
  rcases h with rfl | h
  · exact h'
  · rcases h' with rfl | h'
    · exact .inr h
    · exact .inr ⟨h.1, h'.2⟩

def Arith (op : BinOp) : Prop := op = .add ∨ op = .sub ∨ op = .mul ∨ op = .quo

theorem sum_nan_l (s : Bool) (t : Nat) (d : Ieee.Datum) : Ieee.Datum.sum (.nan s t) d = none := by cases d <;> rfl
theorem sum_nan_r (s : Bool) (t : Nat) (d : Ieee.Datum) : Ieee.Datum.sum d (.nan s t) = none := by cases d <;> rfl
theorem product_nan_l (s : Bool) (t : Nat) (d : Ieee.Datum) : Ieee.Datum.product (.nan s t) d = none := by cases d <;> rfl
theorem product_nan_r (s : Bool) (t : Nat) (d : Ieee.Datum) : Ieee.Datum.product d (.nan s t) = none := by cases d <;> rfl
theorem quotient_nan_l (n : Nat) (s : Bool) (t : Nat) (d : Ieee.Datum) : Ieee.Datum.quotient n (.nan s t) d = none := by cases d <;> rfl
theorem quotient_nan_r (n : Nat) (s : Bool) (t : Nat) (d : Ieee.Datum) : Ieee.Datum.quotient n d (.nan s t) = none := by cases d <;> rfl
theorem order_nan_l (s : Bool) (t : Nat) (d : Ieee.Datum) : Ieee.Datum.order (.nan s t) d = none := by cases d <;> rfl
theorem order_nan_r (s : Bool) (t : Nat) (d : Ieee.Datum) : Ieee.Datum.order d (.nan s t) = none := by cases d <;> rfl

theorem bits_nan_l {op : BinOp} (ha : Arith op) {x : Nat} (h : nanB x) (y : Nat) : floatBits op .f64 x y = none := by
  obtain ⟨s, t, h⟩ := h
  rcases ha with rfl | rfl | rfl | rfl
  · simp [floatBits, FloatKind.format, Ieee.Format.add, h, sum_nan_l]
  · simp [floatBits, FloatKind.format, Ieee.Format.sub, h, sum_nan_l]
  · simp [floatBits, FloatKind.format, Ieee.Format.mul, h, product_nan_l]
  · simp [floatBits, FloatKind.format, Ieee.Format.div, h, quotient_nan_l]
theorem bits_nan_r {op : BinOp} (ha : Arith op) {y : Nat} (h : nanB y) (x : Nat) : floatBits op .f64 x y = none := by
  obtain ⟨s, t, h⟩ := h
  rcases ha with rfl | rfl | rfl | rfl
  · simp [floatBits, FloatKind.format, Ieee.Format.add, h, sum_nan_r]
  · simp [floatBits, FloatKind.format, Ieee.Format.sub, h, Ieee.Datum.opposite, sum_nan_r]
  · simp [floatBits, FloatKind.format, Ieee.Format.mul, h, product_nan_r]
  · simp [floatBits, FloatKind.format, Ieee.Format.div, h, quotient_nan_r]
theorem bits_sim {op : BinOp} (ha : Arith op) {x x' y y' : Nat} (hx : Sim x x') (hy : Sim y y') : floatBits op .f64 x y = floatBits op .f64 x' y' := by
  rcases hx with rfl | ⟨h1, h2⟩
  · rcases hy with rfl | ⟨h1, h2⟩
    · rfl
    · rw [bits_nan_r ha h1, bits_nan_r ha h2]
  · rw [bits_nan_l ha h1, bits_nan_l ha h2]
theorem order_sim {x x' y y' : Nat} (hx : Sim x x') (hy : Sim y y') : FloatKind.f64.format.order x y = FloatKind.f64.format.order x' y' := by
  have l : ∀ {x : Nat}, nanB x → ∀ y, FloatKind.f64.format.order x y = none := fun {x} h y => by
    obtain ⟨s, t, h⟩ := h
    simp [FloatKind.format, Ieee.Format.order, h, order_nan_l]
  have r : ∀ {y : Nat}, nanB y → ∀ x, FloatKind.f64.format.order x y = none := fun {y} h x => by
    obtain ⟨s, t, h⟩ := h
    simp [FloatKind.format, Ieee.Format.order, h, order_nan_r]
  rcases hx with rfl | ⟨h1, h2⟩
  · rcases hy with rfl | ⟨h1, h2⟩
    · rfl
    · rw [r h1, r h2]
  · rw [l h1, l h2]
theorem order_nan {x : Nat} (h : nanB x) (y : Nat) : FloatKind.f64.format.order x y = none := by
  obtain ⟨s, t, h⟩ := h
  simp [FloatKind.format, Ieee.Format.order, h, order_nan_l]
theorem order_self {x : Nat} (h : ¬ nanB x) : FloatKind.f64.format.order x x = some .eq := by
  show (Ieee.double.read x).order (Ieee.double.read x) = some .eq
  cases e : Ieee.double.read x with
  | nan s t => exact absurd ⟨s, t, e⟩ h
  | infinity s => simp [Ieee.Datum.order]
  | number s m i => simp [Ieee.Datum.order]

def qnan : Nat := 0x7FF8000000000001
/-- The operation as a plain function; a NaN is qnan. -/
def fop (op : BinOp) (x y : Nat) : Nat := (floatBits op .f64 x y).getD qnan
theorem nan_above {x : Nat} (h : Ieee.double.infRung < x % Ieee.double.signWeight) : nanB x := by
  refine ⟨x / Ieee.double.signWeight % 2 == 1, x % Ieee.double.signWeight - Ieee.double.infRung, ?_⟩
  have h1 : Ieee.double.binade < Ieee.double.infRung := by decide
  unfold Ieee.Format.read
  simp only
  rw [if_neg (by omega), if_neg (by omega), if_neg (by omega)]
theorem nan_q : nanB qnan := nan_above (by decide)
theorem nan_drawn (t : Nat) : nanB ((t % 2) * 2 ^ 63 + 0x7ff0000000000000 + 1 + (t / 2) % (2 ^ 52 - 1)) := by
  refine nan_above ?_
  have e1 : Ieee.double.infRung = 0x7ff0000000000000 := by decide
  have e2 : Ieee.double.signWeight = 2 ^ 63 := by decide
  rw [e1, e2]
  have h1 : (t / 2) % (2 ^ 52 - 1) < 2 ^ 52 - 1 := Nat.mod_lt _ (by decide)
  have h2 : t % 2 = 0 ∨ t % 2 = 1 := by omega
  rcases h2 with h2 | h2
  · rw [h2]; omega
  · rw [h2]; omega

section
variable {P : Program}
theorem run_fop (w : World) (op : BinOp) (ha : Arith op) (t : TypeId) (x y : Nat) : ∃ z w', (binOp op t (.float .f64 x) (.float .f64 y)).run P w = .ok (.float .f64 z) w' ∧ (w' = w ∨ w' = w.drew) ∧ Sim z (fop op x y) := by
  cases e : floatBits op .f64 x y with
  | some r => exact ⟨r, w, run_float_arith w op t .f64 x y r e, .inl rfl, by unfold fop; rw [e]; exact .refl _⟩
  | none =>
    refine ⟨(Question.nanBits .f64 x y).cut (w.tape w.drawn (.nanBits .f64 x y)), w.drew, ?_, .inr rfl, .inr ⟨nan_drawn _, ?_⟩⟩
    · rcases ha with rfl | rfl | rfl | rfl
      all_goals
        simp only [floatBits] at e
        simp [binOp, Op.floatArith, e, Question.forced]
    · unfold fop; rw [e]; exact nan_q

theorem fop_sim {op : BinOp} (ha : Arith op) {x x' y y' : Nat} (hx : Sim x x') (hy : Sim y y') : fop op x y = fop op x' y' := by unfold fop; rw [bits_sim ha hx hy]

/-- A step of a walk: an operation on two numbers, each known up to the bits of NaN. -/
theorem wpList_f {ops : Array Oper} {rest : List Oper} {o : Oper} {a : Act} {Q : Exit → Act → World → Prop} (hgd : Region.wanted o (yielded ops a.tmps) = true) (x y : Operand) (op : BinOp) (t t' : TypeId) (ho : o.op = .binOp op t x y t') (ha : Arith op) (w : World) {p q p' q' : Nat}
    (hx : a.eval x = .float .f64 p) (hy : a.eval y = .float .f64 q) (sp : Sim p p') (sq : Sim q q')
    (h : ∀ z w', Mod no w w' → Sim z (fop op p' q') → wpList P ops Q rest (a.put o.dst (.float .f64 z)) w') : wpList P ops Q (o :: rest) a w := by
  refine wpList_step fun K hK => ?_
  rw [if_pos hgd]
  obtain ⟨z, w', hr, hw, hs⟩ := run_fop (P := P) w op ha t p q
  rw [fop_sim ha sp sq] at hs
  have hm : Mod no w w' := by
    rcases hw with rfl | rfl
    · exact Mod.refl _ _
    · exact (Mod.refl _ _).drew
  have hr2 : (execOp a.eval o).run P w = .ok (.value (.float .f64 z)) w' := by
    unfold execOp
    have hg : (eqGuard op t x y (.float .f64 p) (.float .f64 q)).run P w = .ok () w := by
      rcases ha with rfl | rfl | rfl | rfl <;> simp [eqGuard]
    simp only [ho, hx, hy, Sem.run_bind, hg, hr, Result.andThen_ok, Sem.run_pure]
  unfold Oper.wp
  rw [hr2]
  exact hK _ _ (h z w' hm hs)
end

end Go.Proofs.Ytoncjoelkenjnaa.FL
