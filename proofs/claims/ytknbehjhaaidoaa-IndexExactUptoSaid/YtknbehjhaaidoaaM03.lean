/- IndexExact: the texts Held Lst of this seat, one behind the other. -/
import Derived.Test.YtknbehjhaaidoaaChecked
import Derived.Test.YtknbehjhaaidoaaM01
import Derived.WalkKit
import Derived.WalkSpells
import Derived.Lib.Hide
import Derived.OwnWalk
import Derived.Deep.RegionHeld3
import Derived.Deep.RegionWith
import Derived.Deep.MidRow
/- A region that draws its order, walked by hand: one lemma an operation (seat-independent). -/
namespace Go.Proofs.Ytknbehjhaaidoaa.HD
open Go.RowKit Mem
set_option linter.unusedVariables false
set_option linter.unusedSimpArgs false

def sR : Code → Code | .seq _ b => b | c => c
def sL : Code → Code | .seq a _ => a | c => c
def RetP (R : Act → World → Prop) : Exit → Act → World → Prop
  | .normal, a, w => R a w
  | _, _, _ => False
theorem wp_only {c : Code} {Q : Exit → Act → World → Prop} {a : Act} {w : World} (h : Code.wp Try.prog c (RetP fun a w => Q .normal a w) a w) : Code.wp Try.prog c Q a w :=
  Code.wp_mono (fun e a w q => by cases e <;> first | exact q | exact q.elim) h
theorem ret_out {R : Act → World → Prop} {a : Act} {w : World} (h : R a w) : RetP R .normal a w := h
section
variable {a : Act} {o : Oper} {w w' : World}
theorem y_move {x : Operand} {v : Value} (ho : o.op = .move x) (hx : a.eval x = v) : (execOp a.eval o).run Try.prog w = .ok (.value v) w := by
  generalize a.eval = ev at hx
  unfold execOp
  simp only [ho, hx]
  go_simp
theorem y_assign {x : Operand} {v : Value} (ho : o.op = .assign x) (hx : a.eval x = v) : (execOp a.eval o).run Try.prog w = .ok (.value v) w := by
  generalize a.eval = ev at hx
  unfold execOp
  simp only [ho, hx]
  go_simp
theorem y_nil {x : Operand} {p : Addr} (ho : o.op = .nilCheck x) (hx : a.eval x = .pointer (some p)) : (execOp a.eval o).run Try.prog w = .ok (.value (.pointer (some p))) w := by
  generalize a.eval = ev at hx
  unfold execOp
  simp only [ho, hx]
  go_simp
theorem op_yield {v : Value} {K : Act → World → Prop} {Q : Exit → Act → World → Prop} (h : (execOp a.eval o).run Try.prog w = .ok (.value v) w') (hK : K (a.put o.dst v) w') : Oper.wp Try.prog o a w K Q := by
  unfold Oper.wp
  rw [h]
  exact hK
theorem takeD {ops : Array Oper} {Q : Exit → Act → World → Prop} {md : Region.Mode} {S : World → Prop} {i : Nat} {oi : Oper} {d : Option Tmp} {v : Value} {fuel : Nat} {listed : Array Bool} (hi : ops[i]? = some oi)
    (hs : Region.noSelect ops = true) (hf : Region.free md ops listed i = true) (hr : (Region.ready md ops listed).contains i = true) (hd : oi.dst = d)
    (hQ : ∀ c a w, Q (.panic c) (a.put d v) w → Q (.panic c) a w) (hy : YieldsIf Try.prog ops S oi v a) (hS : S w)
    (h : wpAnyH Try.prog md ops Q S fuel (listed.setIfInBounds i true) (a.put d v) w) : wpAnyH Try.prog md ops Q S (fuel + 1) listed a w := by
  subst hd
  exact wpAnyH_take hi hs hf hr hQ hy hS h
/-- One operation that stands ready among several. -/
theorem aOne {ops : Array Oper} {Q : Exit → Act → World → Prop} {md : Region.Mode} {S : World → Prop} {i : Nat} {is : List Nat} {oi : Oper} {d : Option Tmp} {fuel : Nat} {listed : Array Bool} (hi : ops[i]? = some oi) (hd : oi.dst = d)
    (hw : Region.wanted oi (yielded ops a.tmps) = true)
    (h : ∀ K : Act → World → Prop, (∀ (u : Value) (w' : World), S w' → (S w' → wpAnyH Try.prog md ops Q S fuel (listed.setIfInBounds i true) (a.put d u) w') → K (a.put oi.dst u) w') → Oper.wp Try.prog oi a w K Q)
    (hs : AllReadyH Try.prog md ops Q S fuel listed a w is) : AllReadyH Try.prog md ops Q S fuel listed a w (i :: is) := by
  subst hd
  refine AllReadyH.cons hi (fun K hK => ?_) hs
  rw [if_pos hw]
  exact h K fun u w' h1 h2 => hK.out _ _ h1 h2
theorem readyD {ops : Array Oper} {Q : Exit → Act → World → Prop} {md : Region.Mode} {S : World → Prop} {i : Nat} {oi : Oper} {d : Option Tmp} {fuel : Nat} {listed : Array Bool} (hi : ops[i]? = some oi) (hr : Region.ready md ops listed = [i]) (hd : oi.dst = d)
    (hw : Region.wanted oi (yielded ops a.tmps) = true)
    (h : ∀ K : Act → World → Prop, (∀ (u : Value) (w' : World), S w' → (S w' → wpAnyH Try.prog md ops Q S fuel (listed.setIfInBounds i true) (a.put d u) w') → K (a.put oi.dst u) w') → Oper.wp Try.prog oi a w K Q) : wpAnyH Try.prog md ops Q S (fuel + 1) listed a w := by
  subst hd
  refine wpAnyH_ready hr (by simp) (AllReadyH.cons hi (fun K hK => ?_) AllReadyH.nil)
  rw [if_pos hw]
  exact h K fun u w' h1 h2 => hK.out _ _ h1 h2
end

end Go.Proofs.Ytknbehjhaaidoaa.HD

/- The list mode: a region's operations one after the other, the frame written out behind each (seat-independent). -/
namespace Go.Proofs.Ytknbehjhaaidoaa.HD
open Go.RowKit Mem
section
variable {a : Act} {o : Oper} {w w' : World} {ops : Array Oper} {rest : List Oper} {Q : Exit → Act → World → Prop} {d : Option Tmp} {v : Value}
/-- One operation after the other. -/
structure WL (ops : Array Oper) (Q : Exit → Act → World → Prop) (l : List Oper) (a : Act) (w : World) : Prop where
  out : wpList Try.prog ops Q l a w
theorem wl_begin {id : Nat} {l : List Oper} (h : WL l.toArray Q l a w) : (Code.region id l.toArray false).wp Try.prog Q a w := wp_region_lit h.out
theorem wl_done (h : Q .normal a w) : WL ops Q [] a w := ⟨wpList_nil h⟩
theorem wl_takeF {a' : Act} (hw : Region.wanted o (yielded ops a.tmps) = true) (hd : o.dst = d) (ha : a.put d v = a') (hy : (execOp a.eval o).run Try.prog w = .ok (.value v) w') (h : WL ops Q rest a' w') : WL ops Q (o :: rest) a w := by
  subst ha
  subst hd
  exact ⟨wpList_step fun K hK => by rw [if_pos hw]; exact op_yield hy (hK _ _ h.out)⟩
theorem wl_skipF {a' : Act} (hw : Region.wanted o (yielded ops a.tmps) = false) (hd : o.dst = d) (ha : a.put d undef = a') (h : WL ops Q rest a' w) : WL ops Q (o :: rest) a w := by
  subst ha
  subst hd
  exact ⟨wpList_skip hw h.out⟩
/-- A call whose value is known. -/
theorem wl_callF {a' : Act} (hw : Region.wanted o (yielded ops a.tmps) = true) (hd : o.dst = d) (ha : a.put d v = a') (h : ∀ K : Act → World → Prop, (∀ (w' : World), WL ops Q rest a' w' → K (a.put o.dst v) w') → Oper.wp Try.prog o a w K Q) : WL ops Q (o :: rest) a w := by
  subst ha
  subst hd
  exact ⟨wpList_step fun K hK => by rw [if_pos hw]; exact h K fun w' h1 => hK _ _ h1.out⟩
end
end Go.Proofs.Ytknbehjhaaidoaa.HD
namespace Go.Proofs.Ytknbehjhaaidoaa.HD
open Go.RowKit Mem
section
variable {a : Act} {o : Oper} {w w' : World} {ops : Array Oper} {rest : List Oper} {Q : Exit → Act → World → Prop} {d : Option Tmp} {v : Value}
/-- A call whose value is told by its contract. -/
theorem wl_callG (A : Value → Act) (hw : Region.wanted o (yielded ops a.tmps) = true) (hd : o.dst = d) (ha : ∀ v, a.put d v = A v) (h : ∀ K : Act → World → Prop, (∀ (u : Value) (w' : World), WL ops Q rest (A u) w' → K (a.put o.dst u) w') → Oper.wp Try.prog o a w K Q) : WL ops Q (o :: rest) a w := by
  subst hd
  exact ⟨wpList_step fun K hK => by rw [if_pos hw]; exact h K fun u w' h1 => hK _ _ (by rw [ha]; exact h1.out)⟩
theorem wl_storeF {a' : Act} {ty : TypeId} {x y : Operand} (ho : o.op = .store ty x y) (b p : Nat) (cells : Array Value) (hw : Region.wanted o (yielded ops a.tmps) = true) (hd : o.dst = none) (ha : a.put none undef = a') (hx : a.eval x = .pointer (some ⟨b, p, none⟩)) (hy : a.eval y = .agg cells)
    (ht : w.there b p cells.size) (hi : (Try.prog.info? ty).map (·.size) = some cells.size) (h1 : cells.all (·.oneCell') = true) (h : WL ops Q rest a' (w.setCells b p cells.toList)) : WL ops Q (o :: rest) a w := by
  subst ha
  refine ⟨wpList_step fun K hK => ?_⟩
  rw [if_pos hw]
  refine wp_store_mid ty x y ho b p cells hx hy ht hi h1 ?_
  rw [hd]
  exact hK _ _ h.out
end
end Go.Proofs.Ytknbehjhaaidoaa.HD
namespace Go.Proofs.Ytknbehjhaaidoaa.HD
open Go.RowKit Mem
section
variable {a : Act} {w w' : World} {ops : Array Oper} {Q : Exit → Act → World → Prop} {d : Option Tmp} {v : Value} {md : Region.Mode} {S : World → Prop}
/-- A region that draws, over a big frame. -/
structure WA (md : Region.Mode) (ops : Array Oper) (Q : Exit → Act → World → Prop) (S : World → Prop) (fuel : Nat) (listed : Array Bool) (a : Act) (w : World) : Prop where
  out : wpAnyH Try.prog md ops Q S fuel listed a w
theorem wa_take {i : Nat} {oi : Oper} {fuel : Nat} {listed : Array Bool} {a' : Act} (hi : ops[i]? = some oi) (hs : Region.noSelect ops = true) (hf : Region.free md ops listed i = true) (hr : (Region.ready md ops listed).contains i = true) (hd : oi.dst = d)
    (hQ : ∀ c a w, Q (.panic c) (a.put d v) w → Q (.panic c) a w) (hy : YieldsIf Try.prog ops S oi v a) (hS : S w) (ha : a.put d v = a')
    (h : WA md ops Q S fuel (listed.setIfInBounds i true) a' w) : WA md ops Q S (fuel + 1) listed a w := by
  subst ha
  exact ⟨takeD hi hs hf hr hd hQ hy hS h.out⟩
theorem wa_call {i : Nat} {oi : Oper} {fuel : Nat} {listed : Array Bool} {a' : Act} (hi : ops[i]? = some oi) (hr : Region.ready md ops listed = [i]) (hd : oi.dst = d) (hw : Region.wanted oi (yielded ops a.tmps) = true) (ha : a.put d v = a')
    (h : ∀ K : Act → World → Prop, (∀ (w' : World), S w' → (S w' → WA md ops Q S fuel (listed.setIfInBounds i true) a' w') → K (a.put oi.dst v) w') → Oper.wp Try.prog oi a w K Q) : WA md ops Q S (fuel + 1) listed a w := by
  subst ha
  exact ⟨readyD hi hr hd hw fun K hK => h K fun w' h1 h2 => hK v w' h1 fun s => (h2 s).out⟩
theorem wa_done {fuel : Nat} {listed : Array Bool} (hr : Region.ready md ops listed = []) (h : Q .normal a w) : WA md ops Q S fuel listed a w := ⟨wpAnyH_done hr h _⟩
end
end Go.Proofs.Ytknbehjhaaidoaa.HD

