/- IndexExact: the texts TbR TbS of this seat, one behind the other. -/
import Derived.Test.YtknbehjhaaidoaaM09
import Derived.RangeFuncNested
import Derived.RangeFuncBound
import Derived.RangeFuncCalls
import Derived.RangeFuncLeaves
import Derived.Shelf.Abstract
import Derived.Shelf.RegionOpen
import Derived.WalkKit
import Derived.OwnWalkIn
import Derived.TacticsInMore
import Derived.LoopNIn
import Derived.LoopIn
/- A region that draws its order, within a round of a range over a function: walked by the plain laws. -/
namespace Go.Proofs.Ytknbehjhaaidoaa.TB
open Go.RowKit Go.Shelf Mem HD
set_option linter.unusedVariables false
set_option linter.unusedSimpArgs false

section
variable {P : Program} {l n : Nat} {a : Act} {w : World} {Q : Exit → Act → World → Prop}
/-- An operation that is no defer statement: what is shown of it plainly holds in a round. -/
theorem oper_in {o : Oper} {K : Act → World → Prop} (hd : ∀ c, o.op ≠ .defer c) (h : o.wp P a w K Q) : o.wpIn (Fence.wide.inRound l) n P a w K Q := by
  refine ⟨fun _ _ => trivial, ?_⟩
  rw [Oper.semAt_plain _ _ _ hd]
  unfold Oper.wp at h
  cases hr : (execOp a.eval o).run P w with
  | ok v w' =>
    rw [hr] at h
    cases v with
    | value v => exact h
    | skip => exact h
    | defer d => exact h
    | enter f args => exact ⟨fun c => (by cases c), CallsIn.inRound l (callsIn_wide.2 h)⟩
    | row row args =>
      refine ⟨fun c => (by cases c), fun c cs _ => ?_⟩
      obtain ⟨v, w'', hv, hs⟩ := h c cs
      exact ⟨v, w'', hv, stepsIn_wide.2 hs⟩
    | _ => exact h.elim
  | halt h0 w' =>
    rw [hr] at h
    cases h0 with
    | panic v => exact h
    | _ => exact h.elim
def noDefer (ops : Array Oper) : Bool := ops.all fun o => match o.op with
  | .defer _ => false
  | _ => true
theorem noDefer_spec {ops : Array Oper} (h : noDefer ops = true) {i : Nat} {o : Oper} (ho : ops[i]? = some o) : ∀ c, o.op ≠ .defer c := fun c hc => by
  unfold noDefer at h
  rw [Array.all_eq_true] at h
  obtain ⟨hi, he⟩ := Array.getElem?_eq_some_iff.1 ho
  have h1 := h i hi
  rw [he, hc] at h1
  cases h1
theorem any_in {md : Region.Mode} {ops : Array Oper} (hd : noDefer ops = true) (hQ : ¬ LetsOut Q) : ∀ (fuel : Nat) (listed : Array Bool) (a : Act) (w : World), wpAny P md ops Q fuel listed a w → wpAnyIn (Fence.wide.inRound l) n P md ops Q fuel listed a w
  | 0, listed, a, w, h => h
  | fuel + 1, listed, a, w, h => ⟨h.1, fun i hi => by
    have h1 := h.2 i hi
    unfold wpOp at h1
    unfold wpOpIn
    cases ho : ops[i]? with
    | none =>
      rw [ho] at h1
      exact any_in hd hQ fuel _ _ _ h1
    | some o =>
      rw [ho] at h1
      dsimp only at h1 ⊢
      split
      · next hw =>
        rw [if_pos hw] at h1
        rcases h1 with h1 | h1
        · exact oper_in (noDefer_spec hd ho) (Oper.wp_mono (fun a w h2 => any_in hd hQ fuel _ _ _ h2) h1)
        · exact absurd h1.2 hQ
      · next hw =>
        rw [if_neg hw] at h1
        exact ⟨fun _ _ => trivial, any_in hd hQ fuel _ _ _ h1⟩⟩
/-- A region that draws, within a round. -/
theorem region_in {id : Nat} {ops : Array Oper} {S : World → Prop} (hm : P.follows .mixedOrders = true) (hd : noDefer ops = true) (hQ : ¬ LetsOut Q) (hS : S w.drew)
    (h : S w.drew → wpAnyH P .any ops Q S ops.size (Array.replicate ops.size false) a w.drew) : (Code.region id ops true).wpIn (Fence.wide.inRound l) n P Q a w :=
  wpIn_region_any hm (any_in hd hQ _ _ _ _ (wpAny_of_held _ _ _ _ (h hS)))
end
end Go.Proofs.Ytknbehjhaaidoaa.TB

/- A table's All: the contract of its iterator. -/
namespace Go.Proofs.Ytknbehjhaaidoaa.TB
open Go.RowKit Go.Shelf Mem HD
set_option linter.unusedVariables false
set_option linter.unusedSimpArgs false
attribute [local go_sem] Oper.semAt_some

/-- What a round keeps: the table's blocks, and whatever rows of arrays there are. -/
def KpT (T : Nat → Prop) (W W' : World) : Prop := ∀ (k : Nat) (t : TypeId) (c : Array Value), (T k ∨ t = 124) → Blk W k t c → Blk W' k t c
theorem kpT_t {T : Nat → Prop} {A B C : World} (h : KpT T A B) (k : KpT T B C) : KpT T A C := fun b t c hb hB => k b t c hb (h b t c hb hB)
theorem kpT_b {T : Nat → Prop} (W : World) (l : Nat) (o o' : Obj) (h : W.heap[l]? = some o) (hc : o.isCells = false) : KpT T W (W.putObj l o') := fun k t c hk hB => by
  have hne : k ≠ l := fun e => by
    subst e
    have hB : W.heap[k]? = some (.cells c t (0, 0)) := hB
    rw [h] at hB
    injection hB with hB
    subst hB
    cases hc
  exact (World.putObj_heap_other hne).trans hB
theorem ArrAt.kp {T : Nat → Prop} {W W' : World} {ga gs u t : Nat} {l : List Sl} (h : ArrAt W ga gs l u t) (hk : KpT T W W') (h1 : T ga) (h2 : T gs) : ArrAt W' ga gs l u t := ⟨hk _ _ _ (.inl h1) h.a, hk _ _ _ (.inl h2) h.s⟩
theorem TabM.kp {T R : Nat → Prop} {W W' : World} {g ya ys : Nat} {t : Tab Key Ent} {po : Option Addr} (h : TabM W g R t ya ys po) (hk : KpT T W W') (hT : ∀ k, R k → T k) : TabM W' g R t ya ys po := by
  refine ⟨hk _ _ _ (.inl (hT _ h.rg)) h.b, h.y.kp hk (hT _ h.ry) (hT _ h.rs), ?_, h.rg, h.ry, h.rs⟩
  have ho := h.o
  cases hto : t.o with
  | none => rw [hto] at ho; exact ho
  | some l =>
    rw [hto] at ho
    obtain ⟨oa, os, h1, h2, h3, h4, h5⟩ := ho
    exact ⟨oa, os, h1, h2.kp hk (hT _ h3) (hT _ h4), h3, h4, h5⟩
theorem abides_mod {β : Type} {b : Nat} {J : β → World → Prop} (h : AbidesFrom b J) {s : β} {W W' : World} (hs : J s W) (m : Mod no W W') : J s W' :=
  h s W W' none hs ⟨m.os, m.tape, m.output, m.size, fun k hk _ => m.block k hk (fun c => c)⟩ (fun r e => by cases e)
section
variable {a : Act} {o : Oper} {w : World}
theorem y_ptab {x : Operand} {p : Addr} {v : Value} (ho : o.op = .load 100 x) (hx : a.eval x = .pointer (some p)) (hc : w.cell? p = some v) (hv : v.oneCell' = true) : (execOp a.eval o).run Try.prog w = .ok (.value v) w := by
  generalize a.eval = ev at hx
  unfold execOp
  simp only [ho, hx]
  go_simp
theorem y_pair {p q : Operand} {s t : Option Addr} (ho : o.op = .buildSlice 139 2 #[(0, p), (1, q)]) (hp : a.eval p = .pointer s) (hq : a.eval q = .pointer t) : (execOp a.eval o).run Try.prog w = .ok (.value (.slice (some ⟨w.heap.size, 0, none⟩) 2 2)) (w.alloc (.cells #[.pointer s, .pointer t] 124)) := by
  generalize a.eval = ev at hp hq
  unfold execOp
  simp only [ho, hp, hq]
  go_simp
theorem y_lenP {x : Operand} {A : Option Addr} {n c : Nat} (ho : o.op = .call { callee := .builtin .len, args := #[x], argTypes := #[139] }) (hx : a.eval x = .slice A n c) : (execOp a.eval o).run Try.prog w = .ok (.value (.int .i64 (n : Int))) w := by
  generalize a.eval = ev at hx
  unfold execOp
  simp only [ho, hx]
  go_simp
end
theorem wpListIn_store_mid {F : Fence} {n : Nat} {P : Program} {ops : Array Oper} {rest : List Oper} {op : Oper} {a : Act} {w : World} {Q : Exit → Act → World → Prop} (hgd : op.guard = none) (ty : TypeId) (x y : Operand) (ho : op.op = .store ty x y)
    (b o : Nat) (cells : Array Value) (hx : a.eval x = .pointer (some ⟨b, o, none⟩)) (hy : a.eval y = .agg cells)
    (ht : w.there b o cells.size) (hi : (P.info? ty).map (·.size) = some cells.size) (h1 : cells.all (·.oneCell') = true)
    (h : wpListIn F n P ops Q rest (a.put op.dst undef) (w.setCells b o cells.toList)) : wpListIn F n P ops Q (op :: rest) a w :=
  wpListIn_plain hgd fun _ hK => by
    unfold Oper.wpIn
    refine ⟨by simp [Oper.about, ho], ?_⟩
    rw [Oper.semAt_plain F _ _ (by rw [ho]; intro c hc'; cases hc')]
    unfold execOp
    simp only [ho, hx, hy, Instr.storeAt, Instr.sureAddr, Sem.run_bind, Sem.run_pure, Result.andThen_ok, run_storeVar_mid w b o ty cells ht hi h1]
    exact hK _ _ h
theorem wpListIn_load_mid {F : Fence} {n : Nat} {P : Program} {ops : Array Oper} {rest : List Oper} {op : Oper} {a : Act} {w : World} {Q : Exit → Act → World → Prop} (hgd : Region.wanted op (yielded ops a.tmps) = true) (ty : TypeId) (x : Operand) (ho : op.op = .load ty x)
    (b o : Nat) (hx : a.eval x = .pointer (some ⟨b, o, none⟩)) (cs : List Value) (d : TypeDesc) (hc : w.rangeAt b o cs)
    (hu : P.underlying ty = some d) (hd : d.isRow = true) (hi : (P.info? ty).map (·.size) = some cs.length)
    (h : wpListIn F n P ops Q rest (a.put op.dst (.agg cs.toArray)) w) : wpListIn F n P ops Q (op :: rest) a w :=
  wpListIn_step fun _ hK => by
    rw [if_pos hgd]
    unfold Oper.wpIn
    refine ⟨by simp [Oper.about, ho], ?_⟩
    rw [Oper.semAt_plain F _ _ (by rw [ho]; intro c hc'; cases hc')]
    unfold execOp
    simp only [ho, hx, Instr.loadAt, Instr.sureAddr, Sem.run_bind, Sem.run_pure, Result.andThen_ok, run_loadVar_mid w b o ty cs d hc hu hd hi]
    exact hK _ _ h
theorem ents_append (l l' : List Sl) : ents (l ++ l') = ents l ++ ents l' := by
  unfold ents
  rw [List.filterMap_append]
theorem ents_pre (l : List Sl) (n : Nat) : ents (l.take n) <+: ents l := ⟨ents (l.drop n), by rw [← ents_append, List.take_append_drop]⟩
theorem ents_take {l : List Sl} {j : Nat} {s : Sl} (h : l[j]? = some s) : ents (l.take (j + 1)) = ents (l.take j) ++ s.ent.toList := by
  rw [List.take_add_one, h]
  unfold ents
  rw [List.filterMap_append]
  cases s <;> rfl
/-- The arrays that All goes through. -/
def arrs (t : Tab Key Ent) : Nat → List (Key × Ent)
  | 0 => []
  | 1 => oents t.o
  | _ => t.L
def AO (J : List (Key × Ent) → World → Prop) (W0 : World) (g B bs : Nat) (R : Nat → Prop) (t : Tab Key Ent) (ya ys : Nat) (po : Option Addr) (v20 : Value) (wr : World) : Prop :=
  ∃ i : Nat, i ≤ 2 ∧ v20 = .int .i64 (i : Int) ∧ J (arrs t i) wr ∧ TabM wr g R t ya ys po ∧ Blk wr bs 124 #[.pointer po, .pointer (some ⟨ya, 0, none⟩)]
def AI (J : List (Key × Ent) → World → Prop) (W0 : World) (g B bs : Nat) (R : Nat → Prop) (t : Tab Key Ent) (ya ys : Nat) (po : Option Addr) (ga gs : Nat) (pre : List (Key × Ent)) (l : List Sl) (v31 : Value) (wr : World) : Prop :=
  ∃ j : Nat, j ≤ l.length ∧ v31 = .int .i64 (j : Int) ∧ J (pre ++ ents (l.take j)) wr ∧ TabM wr g R t ya ys po ∧ Blk wr bs 124 #[.pointer po, .pointer (some ⟨ya, 0, none⟩)] ∧ ArrAt wr ga gs l (ents l).length (tombs l)
set_option maxRecDepth 100000 in
set_option maxHeartbeats 4000000 in
theorem all_stops {w : World} {g ya ys B n s : Nat} {R : Nat → Prop} {t : Tab Key Ent} {po : Option Addr} (hT : TabM w g R t ya ys po) (hw : WF hash s t) (hB : Blk w B 100 #[.pointer (some ⟨g, 0, none⟩)]) (hn : 2 ≤ n) :
    SeqStopsK Fence.wide n Try.prog 92 #[.pointer (some ⟨B, 0, none⟩)] (fun x : Key × Ent => #[.agg x.1.L.toArray, .agg x.2.L.toArray]) (KpT fun k => R k ∨ k = B) (fun xs => xs = t.L) (fun pre => pre <+: t.L) t.L.length w := fun l J Jx W hW hJ hJx hY h0 => by
  have hTW : TabM W g (small R w) t ya ys po := by
    have hs := hT.small
    refine ⟨(hW.block _ hT.b.lt).trans hT.b, ⟨(hW.block _ hT.y.a.lt).trans hT.y.a, (hW.block _ hT.y.s.lt).trans hT.y.s⟩, ?_, hs.rg, hs.ry, hs.rs⟩
    have ho := hs.o
    cases hto : t.o with
    | none => rw [hto] at ho; exact ho
    | some l =>
      rw [hto] at ho
      obtain ⟨oa, os, h1, h2, h3, h4, h5⟩ := ho
      exact ⟨oa, os, h1, ⟨(hW.block _ h2.a.lt).trans h2.a, (hW.block _ h2.s.lt).trans h2.s⟩, h3, h4, h5⟩
  have hBW : Blk W B 100 #[.pointer (some ⟨g, 0, none⟩)] := (hW.block _ hB.lt).trans hB
  have hW0 : w.heap.size ≤ W.heap.size := hW.size
  have HT := Lib.hid (And.intro hTW (And.intro hBW hW0))
  have HY := Lib.hid hY
  have HJ := Lib.hid (And.intro hJ (And.intro hJx h0))
  have HW := Lib.hid hw
  have cB := hBW.cell 0
  clear hT hw hB hW hJ hJx hY h0 hTW hBW hW0
  refine callsIn_of_wp Try.func92 rfl trivial ?_ rfl
  simp only [Try.ntmps92, List.size_toArray, List.length_cons, List.length_nil, Nat.reduceAdd, Nat.reduceSub, Array.replicate_succ, Array.replicate_zero, List.push_toArray, List.append_toArray, List.nil_append, List.cons_append]
  gi_wp2_with fail
  refine ⟨trivial, fun c => (by cases c), ?_⟩
  refine (callsIn_wide.2 (made_any ⟨ya, ys, po, HT.out.1⟩)).mono ?_
  rintro e w' ⟨rfl, rfl⟩
  gi_wp2_with fail
  refine wpIn_wide.2 ?_
  refine wp_region_held_drew (S := fun w9 => TabM w9 g (small R w) t ya ys po ∧ Blk w9 B 100 #[.pointer (some ⟨g, 0, none⟩)]) (by kernel_rfl) ⟨HT.out.1.drew, HT.out.2.1⟩ (fun hHeld => ?_)
  refine takeD (i := 0) (d := some 10) (v := (.pointer (some ⟨g, 0, none⟩))) rfl (by kernel_rfl) (by kernel_rfl) (by kernel_rfl) rfl (fun _ _ _ h => h) (Or.inl ⟨by kernel_rfl, fun w9 hw => y_ptab rfl rfl (hw.2.cell 0) rfl⟩) hHeld ?_
  simp only [Act.put, List.setIfInBounds_toArray, List.set_cons_zero, List.set_cons_succ]
  refine takeD (i := 1) (d := some 11) (v := (.pointer (some ⟨g, 0, none⟩))) rfl (by kernel_rfl) (by kernel_rfl) (by kernel_rfl) rfl (fun _ _ _ h => h) (Or.inl ⟨by kernel_rfl, fun w9 hw => y_nil rfl rfl⟩) hHeld ?_
  simp only [Act.put, List.setIfInBounds_toArray, List.set_cons_zero, List.set_cons_succ]
  refine takeD (i := 2) (d := some 12) (v := (.pointer (some ⟨g, 2, none⟩))) rfl (by kernel_rfl) (by kernel_rfl) (by kernel_rfl) rfl (fun _ _ _ h => h) (Or.inl ⟨by kernel_rfl, fun w9 hw => y_ft (by decide) rfl rfl⟩) hHeld ?_
  simp only [Act.put, List.setIfInBounds_toArray, List.set_cons_zero, List.set_cons_succ]
  refine takeD (i := 3) (d := some 13) (v := (.pointer po)) rfl (by kernel_rfl) (by kernel_rfl) (by kernel_rfl) rfl (fun _ _ _ h => h) (Or.inl ⟨by kernel_rfl, fun w9 hw => y_one rfl (by decide) rfl (hw.1.b.cell 2) rfl⟩) hHeld ?_
  simp only [Act.put, List.setIfInBounds_toArray, List.set_cons_zero, List.set_cons_succ]
  refine takeD (i := 4) (d := some 14) (v := (.pointer (some ⟨g, 0, none⟩))) rfl (by kernel_rfl) (by kernel_rfl) (by kernel_rfl) rfl (fun _ _ _ h => h) (Or.inl ⟨by kernel_rfl, fun w9 hw => y_ptab rfl rfl (hw.2.cell 0) rfl⟩) hHeld ?_
  simp only [Act.put, List.setIfInBounds_toArray, List.set_cons_zero, List.set_cons_succ]
  refine takeD (i := 5) (d := some 15) (v := (.pointer (some ⟨g, 0, none⟩))) rfl (by kernel_rfl) (by kernel_rfl) (by kernel_rfl) rfl (fun _ _ _ h => h) (Or.inl ⟨by kernel_rfl, fun w9 hw => y_nil rfl rfl⟩) hHeld ?_
  simp only [Act.put, List.setIfInBounds_toArray, List.set_cons_zero, List.set_cons_succ]
  refine takeD (i := 6) (d := some 16) (v := (.pointer (some ⟨g, 1, none⟩))) rfl (by kernel_rfl) (by kernel_rfl) (by kernel_rfl) rfl (fun _ _ _ h => h) (Or.inl ⟨by kernel_rfl, fun w9 hw => y_ft (by decide) rfl rfl⟩) hHeld ?_
  simp only [Act.put, List.setIfInBounds_toArray, List.set_cons_zero, List.set_cons_succ]
  refine takeD (i := 7) (d := some 17) (v := (.pointer (some ⟨ya, 0, none⟩))) rfl (by kernel_rfl) (by kernel_rfl) (by kernel_rfl) rfl (fun _ _ _ h => h) (Or.inl ⟨by kernel_rfl, fun w9 hw => y_one rfl (by decide) rfl (hw.1.b.cell 1) rfl⟩) hHeld ?_
  simp only [Act.put, List.setIfInBounds_toArray, List.set_cons_zero, List.set_cons_succ]
  refine takeD (i := 10) (d := some 20) (v := (.int .i64 0)) rfl (by kernel_rfl) (by kernel_rfl) (by kernel_rfl) rfl (fun _ _ _ h => h) (Or.inl ⟨by kernel_rfl, fun w9 hw => y_move rfl rfl⟩) hHeld ?_
  simp only [Act.put, List.setIfInBounds_toArray, List.set_cons_zero, List.set_cons_succ]
  refine readyD (i := 8) (d := some 18) rfl (by kernel_rfl) rfl (by kernel_rfl) fun K hK => ?_
  refine op_yield (y_pair rfl rfl rfl) ?_
  have m1 : Mod no w'.drew (w'.drew.alloc (.cells #[.pointer po, .pointer (some ⟨ya, 0, none⟩)] 124)) := (Mod.refl no _).alloc _
  have b1 := Blk.new w'.drew 124 #[.pointer po, .pointer (some ⟨ya, 0, none⟩)]
  refine hK _ _ ⟨hHeld.1.mod m1 (fun _ _ c => c), hHeld.2.mod m1 (fun c => c)⟩ fun hHeld9 => ?_
  have HM1' := Lib.hid (show Mod no w' (w'.drew.alloc (.cells #[.pointer po, .pointer (some ⟨ya, 0, none⟩)] 124)) ∧ _ from ⟨(Mod.refl no w').drew.and_then m1, b1⟩)
  clear hK K hHeld m1 b1
  have hHeld := hHeld9
  clear hHeld9
  simp only [Act.put, List.setIfInBounds_toArray, List.set_cons_zero, List.set_cons_succ]
  obtain ⟨bs, hbs⟩ : ∃ bs, bs = w'.drew.heap.size := ⟨_, rfl⟩
  obtain ⟨w1, hw1⟩ : ∃ w1, w1 = w'.drew.alloc (.cells #[.pointer po, .pointer (some ⟨ya, 0, none⟩)] 124) := ⟨_, rfl⟩
  have HM1 := Lib.hid (show Mod no w' w1 ∧ Blk w1 bs 124 #[.pointer po, .pointer (some ⟨ya, 0, none⟩)] by rw [hw1, hbs]; exact HM1'.out)
  rw [← hw1] at hHeld ⊢
  rw [← hbs]
  clear HM1' hbs hw1
  refine takeD (i := 9) (d := some 19) (v := (.int .i64 2)) rfl (by kernel_rfl) (by kernel_rfl) (by kernel_rfl) rfl (fun _ _ _ h => h) (Or.inl ⟨by kernel_rfl, fun w9 hw => y_lenP rfl rfl⟩) hHeld ?_
  simp only [Act.put, List.setIfInBounds_toArray, List.set_cons_zero, List.set_cons_succ]
  refine wpAnyH_done (by kernel_rfl) ?_ _
  have hJ1 := abides_mod HJ.out.1 HJ.out.2.2 HM1.out.1
  have H1 := Lib.hid (And.intro hJ1 (And.intro hHeld.1 (And.intro HM1.out.2 HM1.out.1.size)))
  clear hJ1 hHeld cB
  gi_wp2_with fail
  gi_loopw [20] (AO J w' g B bs (small R w) t ya ys po) (fun v _ => 2 - (intOf v).toNat)
  case atStart => exact ⟨0, by omega, rfl, H1.out.1, H1.out.2.1, H1.out.2.2.1⟩
  case round =>
    obtain ⟨i, hi, rfl, hJi, hTi, hBi⟩ := hrel
    have HI := Lib.hid (And.intro hJi (And.intro hTi hBi))
    clear H1
    by_cases hi0 : i = 0
    · rw [show (i : Int) = 0 by omega]
      subst hi0
      have c0 := hBi.cell 0
      cases hto : t.o with
      | none =>
        have hpo := hTi.o
        rw [hto] at hpo
        have hpo : po = none := hpo
        subst hpo
        have HTO := Lib.hid hto
        clear hJi hTi hBi hi hto
        gi_wp2_with fail
        exact ⟨⟨1, by omega, rfl, by show J (oents t.o) wr; rw [HTO.out]; exact HI.out.1, HI.out.2.1, HI.out.2.2⟩, by show 2 - (1 : Int).toNat < 2 - (0 : Int).toNat; decide⟩
      | some lo =>
        have hpo := hTi.o
        rw [hto] at hpo
        obtain ⟨oa, os, rfl, ha0, hro, hrs, _, _⟩ := hpo
        have HTO := Lib.hid (And.intro hto (And.intro hro (And.intro hrs ha0)))
        have c1 := ha0.a.cell 0
        have HPX := Lib.hid (show ∀ n', arrs t 0 ++ ents (lo.take n') <+: t.L from fun n' => by
          show [] ++ ents (lo.take n') <+: oents t.o ++ ents t.y
          rw [hto, List.nil_append]
          exact (ents_pre lo n').trans (List.prefix_append _ _))
        have HLB := Lib.hid (show lo.length ≤ 1099511627776 from (HW.out.old lo hto).1.bd.2.1)
        clear hJi hTi hBi hi hto ha0 hro hrs
        gi_wp2_with fail
        gi_loopw [31] (AI J w' g B bs (small R w) t ya ys (some ⟨oa, 0, none⟩) oa os (arrs t 0) lo) (fun v _ => lo.length - (intOf v).toNat)
        case atStart => exact ⟨0, Nat.zero_le _, rfl, by rw [List.take_zero]; show J ((arrs t 0) ++ []) wr; rw [List.append_nil]; exact HI.out.1, HI.out.2.1, HI.out.2.2, HTO.out.2.2.2⟩
        case round =>
          clear HI c0 c1
          have HRG := Lib.hid (And.intro HTO.out.2.1 HTO.out.2.2.1)
          obtain ⟨j, hj, rfl, hJj, hTj, hBj, hAj⟩ := hrel
          have HI := Lib.hid (And.intro hJj (And.intro hTj (And.intro hBj hAj)))
          by_cases hlt : j < lo.length
          · obtain ⟨s, hs⟩ : ∃ s, lo[j]? = some s := ⟨_, List.getElem?_eq_getElem hlt⟩
            have HR := Lib.hid ((hAj.mod ((Mod.refl no wr).alloc (.cells (slotL .empty).toArray 133)) (fun c => c) (fun c => c)).range hs)
            have HR0 := Lib.hid (hAj.range hs)
            have htk : ents (lo.take (j + 1)) = ents (lo.take j) ++ s.ent.toList := ents_take hs
            have HX := Lib.hid (And.intro hlt (And.intro hs htk))
            have g1 : (j : Int) < (lo.length : Int) := by omega
            have g2 : ¬ (j : Int) < 0 := by omega
            have w1' : wrap64 ((j : Int) + 1) = (j : Int) + 1 := IntWalk.wrap64_in _ (by have := HLB.out; omega)
            have hth : World.there (wr.alloc (.cells (slotL .empty).toArray 133)) wr.heap.size 0 (slotL s).toArray.size := by
              have e37 : (slotL s).toArray.size = 37 := by simp [slotL_len]
              rw [e37]
              exact blk_there (Blk.new wr 133 (slotL .empty).toArray) 0 37 (by decide)
            have HTH := Lib.hid hth
            clear hth
            have HF := Lib.hid (show ∀ w2, w2 = World.setCells (wr.alloc (.cells (slotL .empty).toArray 133)) wr.heap.size 0 (slotL s).toArray.toList → Mod no wr w2 ∧ w2.rangeAt wr.heap.size 0 (slotL s) from fun w2 hw2 => by
              subst hw2
              exact ⟨mod_setCells (fun c => absurd c (Nat.lt_irrefl _)) _ _ _ ((Mod.refl no wr).alloc _), World.rangeAt_setCells_same _ _ _ _ (by rw [Array.length_toList]; exact HTH.out)⟩)
            clear hJj hTj hBj hAj hj hlt hs htk
            cases s with
            | empty =>
              gi_wp2_with (first
                | (refine wpListIn_load_mid rfl 133 (.tmp 33) (by rfl) os (j * 37) (by rfl) (slotL .empty) _ (by exact HR0.out) Try.underlying133 rfl (slot_sizeG _) ?_)
                | (refine wpListIn_store_mid rfl 133 (.tmp 6) (.tmp 34) (by rfl) wr.heap.size 0 (slotL .empty).toArray (by rfl) (by rfl) (by exact HTH.out) (slot_sizeG _) (all_oneCell_toArray (slot_ones _)) ?_
                   obtain ⟨w2, hw2⟩ : ∃ w2, w2 = World.setCells (wr.alloc (.cells (slotL .empty).toArray 133)) wr.heap.size 0 (slotL .empty).toArray.toList := ⟨_, rfl⟩
                   change wpListIn Fence.wide n Try.prog _ _ _ _ (World.setCells (wr.alloc (.cells (slotL .empty).toArray 133)) wr.heap.size 0 (slotL .empty).toArray.toList)
                   rw [← hw2]
                   have H2 := Lib.hid (HF.out w2 hw2)
                   clear hw2 HF HTH
                   have cst : w2.cell? ⟨wr.heap.size, 0, none⟩ = some (.int .u8 0) := H2.out.2 0 _ rfl))
              refine ⟨fun _ h => (by cases h), ?_⟩
              gi_wp2_with fail
              go_roundw
              case rel => exact ⟨j + 1, HX.out.1, by go_num, by rw [HX.out.2.2]; show J ((arrs t 0) ++ (ents (lo.take j) ++ [])) w2; rw [List.append_nil]; exact abides_mod HJ.out.1 HI.out.1 H2.out.1, HI.out.2.1.mod H2.out.1 (fun _ _ c => c), HI.out.2.2.1.mod H2.out.1 (fun c => c), HI.out.2.2.2.mod H2.out.1 (fun c => c) (fun c => c)⟩
              case measure =>
                have := HX.out.1
                rw [IntWalk.wrap64_in ((j : Int) + 1) (by have := HLB.out; omega)]
                show lo.length - ((j : Int) + 1).toNat < lo.length - ((j : Int)).toNat
                omega
            | tomb =>
              gi_wp2_with (first
                | (refine wpListIn_load_mid rfl 133 (.tmp 33) (by rfl) os (j * 37) (by rfl) (slotL .tomb) _ (by exact HR0.out) Try.underlying133 rfl (slot_sizeG _) ?_)
                | (refine wpListIn_store_mid rfl 133 (.tmp 6) (.tmp 34) (by rfl) wr.heap.size 0 (slotL .tomb).toArray (by rfl) (by rfl) (by exact HTH.out) (slot_sizeG _) (all_oneCell_toArray (slot_ones _)) ?_
                   obtain ⟨w2, hw2⟩ : ∃ w2, w2 = World.setCells (wr.alloc (.cells (slotL .empty).toArray 133)) wr.heap.size 0 (slotL .tomb).toArray.toList := ⟨_, rfl⟩
                   change wpListIn Fence.wide n Try.prog _ _ _ _ (World.setCells (wr.alloc (.cells (slotL .empty).toArray 133)) wr.heap.size 0 (slotL .tomb).toArray.toList)
                   rw [← hw2]
                   have H2 := Lib.hid (HF.out w2 hw2)
                   clear hw2 HF HTH
                   have cst : w2.cell? ⟨wr.heap.size, 0, none⟩ = some (.int .u8 2) := H2.out.2 0 _ rfl))
              refine ⟨fun _ h => (by cases h), ?_⟩
              gi_wp2_with fail
              go_roundw
              case rel => exact ⟨j + 1, HX.out.1, by go_num, by rw [HX.out.2.2]; show J ((arrs t 0) ++ (ents (lo.take j) ++ [])) w2; rw [List.append_nil]; exact abides_mod HJ.out.1 HI.out.1 H2.out.1, HI.out.2.1.mod H2.out.1 (fun _ _ c => c), HI.out.2.2.1.mod H2.out.1 (fun c => c), HI.out.2.2.2.mod H2.out.1 (fun c => c) (fun c => c)⟩
              case measure =>
                have := HX.out.1
                rw [IntWalk.wrap64_in ((j : Int) + 1) (by have := HLB.out; omega)]
                show lo.length - ((j : Int) + 1).toNat < lo.length - ((j : Int)).toNat
                omega
            | full k v =>
              have HQ := Lib.hid (show ((arrs t 0) ++ ents (lo.take j)) ++ [(k, v)] <+: t.L by have h := HPX.out (j + 1); rw [HX.out.2.2, ← List.append_assoc] at h; exact h)
              have HQL := Lib.hid (show ((arrs t 0) ++ ents (lo.take j)).length < t.L.length by have h := HQ.out.length_le; rw [List.length_append] at h; exact Nat.lt_of_lt_of_le (Nat.lt_succ_self _) h)
              gi_wp2_with (first
                | (refine wpListIn_load_mid rfl 133 (.tmp 33) (by rfl) os (j * 37) (by rfl) (slotL (.full k v)) _ (by exact HR0.out) Try.underlying133 rfl (slot_sizeG _) ?_)
                | (refine wpListIn_store_mid rfl 133 (.tmp 6) (.tmp 34) (by rfl) wr.heap.size 0 (slotL (.full k v)).toArray (by rfl) (by rfl) (by exact HTH.out) (slot_sizeG _) (all_oneCell_toArray (slot_ones _)) ?_
                   obtain ⟨w2, hw2⟩ : ∃ w2, w2 = World.setCells (wr.alloc (.cells (slotL .empty).toArray 133)) wr.heap.size 0 (slotL (.full k v)).toArray.toList := ⟨_, rfl⟩
                   change wpListIn Fence.wide n Try.prog _ _ _ _ (World.setCells (wr.alloc (.cells (slotL .empty).toArray 133)) wr.heap.size 0 (slotL (.full k v)).toArray.toList)
                   rw [← hw2]
                   have H2 := Lib.hid (HF.out w2 hw2)
                   clear hw2 HF HTH
                   have cst : w2.cell? ⟨wr.heap.size, 0, none⟩ = some (.int .u8 1) := H2.out.2 0 _ rfl
                   obtain ⟨fn, tmps, assign, body, hy, hR⟩ := HY.out ((arrs t 0) ++ ents (lo.take j)) (k, v) w2 (abides_mod HJ.out.1 HI.out.1 H2.out.1) HQL.out
                   dsimp only at hy
                   have HRK := Lib.hid (And.intro (range_key H2.out.2) (range_ent H2.out.2)))
                | (refine wpListIn_load_mid (by rfl) 39 (.tmp 40) (by rfl) wr.heap.size 1 (by rfl) k.L _ (by exact HRK.out.1) Try.underlying39 rfl (key_sizeG k.len) ?_)
                | (refine wpListIn_load_mid (by rfl) 56 (.tmp 42) (by rfl) wr.heap.size 33 (by rfl) v.L _ (by exact HRK.out.2) Try.underlying56 rfl (ent_sizeG v) ?_))
              refine ⟨fun c => (by cases c), ?_⟩
              refine hR.mono ?_
              rintro e W5 (⟨rfl, hJ5, hk5⟩ | ⟨rfl, hx5⟩)
              · gi_wp2_with fail
                go_roundw
                case rel => exact ⟨j + 1, HX.out.1, by go_num, by rw [HX.out.2.2]; show J ((arrs t 0) ++ (ents (lo.take j) ++ [(k, v)])) W5; rw [← List.append_assoc]; exact hJ5, (HI.out.2.1.mod H2.out.1 (fun _ _ c => c)).kp hk5 (fun x hx => .inl hx.1), hk5 _ _ _ (.inr rfl) (HI.out.2.2.1.mod H2.out.1 (fun c => c)), (HI.out.2.2.2.mod H2.out.1 (fun c => c) (fun c => c)).kp hk5 (.inl HRG.out.1.1) (.inl HRG.out.2.1)⟩
                case measure =>
                  have := HX.out.1
                  rw [IntWalk.wrap64_in ((j : Int) + 1) (by have := HLB.out; omega)]
                  show lo.length - ((j : Int) + 1).toNat < lo.length - ((j : Int)).toNat
                  omega
              · gi_wp2_with fail
                refine bodyPost_ret (results_none rfl _ _ _) rfl ?_
                exact ⟨⟨_, rfl⟩, .inr ⟨_, HQ.out, hx5⟩⟩
          · obtain rfl : j = lo.length := by omega
            have g1 : ¬ (lo.length : Int) < (lo.length : Int) := by omega
            clear hJj hTj hBj hAj hj hlt
            gi_wp2_with fail
            exact ⟨⟨1, by omega, rfl, by have h := HI.out.1; rw [List.take_length] at h; (show J (oents t.o) wr; rw [HTO.out.1]; exact h), HI.out.2.1, HI.out.2.2.1⟩, by show 2 - (1 : Int).toNat < 2 - (0 : Int).toNat; decide⟩
    · have hi1 : i = 1 ∨ i = 2 := by omega
      rcases hi1 with hi1 | hi1
      · rw [show (i : Int) = 1 by omega]
        subst hi1
        have c0 := hBi.cell 1
        have c1 := hTi.y.a.cell 0
        have HPX := Lib.hid (show ∀ n', arrs t 1 ++ ents (t.y.take n') <+: t.L from fun n' => (List.prefix_append_right_inj _).2 (ents_pre t.y n'))
        have HLB := Lib.hid (show t.y.length ≤ 1099511627776 from HW.out.py.bd.2.1)
        have HTO := Lib.hid (And.intro trivial (And.intro hTi.ry (And.intro hTi.rs hTi.y)))
        clear hJi hTi hBi hi hi0
        gi_wp2_with fail
        gi_loopw [31] (AI J w' g B bs (small R w) t ya ys po ya ys (arrs t 1) t.y) (fun v _ => t.y.length - (intOf v).toNat)
        case atStart => exact ⟨0, Nat.zero_le _, rfl, by rw [List.take_zero]; show J ((arrs t 1) ++ []) wr; rw [List.append_nil]; exact HI.out.1, HI.out.2.1, HI.out.2.2, HTO.out.2.2.2⟩
        case round =>
          clear HI c0 c1
          have HRG := Lib.hid (And.intro HTO.out.2.1 HTO.out.2.2.1)
          obtain ⟨j, hj, rfl, hJj, hTj, hBj, hAj⟩ := hrel
          have HI := Lib.hid (And.intro hJj (And.intro hTj (And.intro hBj hAj)))
          by_cases hlt : j < t.y.length
          · obtain ⟨s, hs⟩ : ∃ s, t.y[j]? = some s := ⟨_, List.getElem?_eq_getElem hlt⟩
            have HR := Lib.hid ((hAj.mod ((Mod.refl no wr).alloc (.cells (slotL .empty).toArray 133)) (fun c => c) (fun c => c)).range hs)
            have HR0 := Lib.hid (hAj.range hs)
            have htk : ents (t.y.take (j + 1)) = ents (t.y.take j) ++ s.ent.toList := ents_take hs
            have HX := Lib.hid (And.intro hlt (And.intro hs htk))
            have g1 : (j : Int) < (t.y.length : Int) := by omega
            have g2 : ¬ (j : Int) < 0 := by omega
            have w1' : wrap64 ((j : Int) + 1) = (j : Int) + 1 := IntWalk.wrap64_in _ (by have := HLB.out; omega)
            have hth : World.there (wr.alloc (.cells (slotL .empty).toArray 133)) wr.heap.size 0 (slotL s).toArray.size := by
              have e37 : (slotL s).toArray.size = 37 := by simp [slotL_len]
              rw [e37]
              exact blk_there (Blk.new wr 133 (slotL .empty).toArray) 0 37 (by decide)
            have HTH := Lib.hid hth
            clear hth
            have HF := Lib.hid (show ∀ w2, w2 = World.setCells (wr.alloc (.cells (slotL .empty).toArray 133)) wr.heap.size 0 (slotL s).toArray.toList → Mod no wr w2 ∧ w2.rangeAt wr.heap.size 0 (slotL s) from fun w2 hw2 => by
              subst hw2
              exact ⟨mod_setCells (fun c => absurd c (Nat.lt_irrefl _)) _ _ _ ((Mod.refl no wr).alloc _), World.rangeAt_setCells_same _ _ _ _ (by rw [Array.length_toList]; exact HTH.out)⟩)
            clear hJj hTj hBj hAj hj hlt hs htk
            cases s with
            | empty =>
              gi_wp2_with (first
                | (refine wpListIn_load_mid rfl 133 (.tmp 33) (by rfl) ys (j * 37) (by rfl) (slotL .empty) _ (by exact HR0.out) Try.underlying133 rfl (slot_sizeG _) ?_)
                | (refine wpListIn_store_mid rfl 133 (.tmp 6) (.tmp 34) (by rfl) wr.heap.size 0 (slotL .empty).toArray (by rfl) (by rfl) (by exact HTH.out) (slot_sizeG _) (all_oneCell_toArray (slot_ones _)) ?_
                   obtain ⟨w2, hw2⟩ : ∃ w2, w2 = World.setCells (wr.alloc (.cells (slotL .empty).toArray 133)) wr.heap.size 0 (slotL .empty).toArray.toList := ⟨_, rfl⟩
                   change wpListIn Fence.wide n Try.prog _ _ _ _ (World.setCells (wr.alloc (.cells (slotL .empty).toArray 133)) wr.heap.size 0 (slotL .empty).toArray.toList)
                   rw [← hw2]
                   have H2 := Lib.hid (HF.out w2 hw2)
                   clear hw2 HF HTH
                   have cst : w2.cell? ⟨wr.heap.size, 0, none⟩ = some (.int .u8 0) := H2.out.2 0 _ rfl))
              refine ⟨fun _ h => (by cases h), ?_⟩
              gi_wp2_with fail
              go_roundw
              case rel => exact ⟨j + 1, HX.out.1, by go_num, by rw [HX.out.2.2]; show J ((arrs t 1) ++ (ents (t.y.take j) ++ [])) w2; rw [List.append_nil]; exact abides_mod HJ.out.1 HI.out.1 H2.out.1, HI.out.2.1.mod H2.out.1 (fun _ _ c => c), HI.out.2.2.1.mod H2.out.1 (fun c => c), HI.out.2.2.2.mod H2.out.1 (fun c => c) (fun c => c)⟩
              case measure =>
                have := HX.out.1
                rw [IntWalk.wrap64_in ((j : Int) + 1) (by have := HLB.out; omega)]
                show t.y.length - ((j : Int) + 1).toNat < t.y.length - ((j : Int)).toNat
                omega
            | tomb =>
              gi_wp2_with (first
                | (refine wpListIn_load_mid rfl 133 (.tmp 33) (by rfl) ys (j * 37) (by rfl) (slotL .tomb) _ (by exact HR0.out) Try.underlying133 rfl (slot_sizeG _) ?_)
                | (refine wpListIn_store_mid rfl 133 (.tmp 6) (.tmp 34) (by rfl) wr.heap.size 0 (slotL .tomb).toArray (by rfl) (by rfl) (by exact HTH.out) (slot_sizeG _) (all_oneCell_toArray (slot_ones _)) ?_
                   obtain ⟨w2, hw2⟩ : ∃ w2, w2 = World.setCells (wr.alloc (.cells (slotL .empty).toArray 133)) wr.heap.size 0 (slotL .tomb).toArray.toList := ⟨_, rfl⟩
                   change wpListIn Fence.wide n Try.prog _ _ _ _ (World.setCells (wr.alloc (.cells (slotL .empty).toArray 133)) wr.heap.size 0 (slotL .tomb).toArray.toList)
                   rw [← hw2]
                   have H2 := Lib.hid (HF.out w2 hw2)
                   clear hw2 HF HTH
                   have cst : w2.cell? ⟨wr.heap.size, 0, none⟩ = some (.int .u8 2) := H2.out.2 0 _ rfl))
              refine ⟨fun _ h => (by cases h), ?_⟩
              gi_wp2_with fail
              go_roundw
              case rel => exact ⟨j + 1, HX.out.1, by go_num, by rw [HX.out.2.2]; show J ((arrs t 1) ++ (ents (t.y.take j) ++ [])) w2; rw [List.append_nil]; exact abides_mod HJ.out.1 HI.out.1 H2.out.1, HI.out.2.1.mod H2.out.1 (fun _ _ c => c), HI.out.2.2.1.mod H2.out.1 (fun c => c), HI.out.2.2.2.mod H2.out.1 (fun c => c) (fun c => c)⟩
              case measure =>
                have := HX.out.1
                rw [IntWalk.wrap64_in ((j : Int) + 1) (by have := HLB.out; omega)]
                show t.y.length - ((j : Int) + 1).toNat < t.y.length - ((j : Int)).toNat
                omega
            | full k v =>
              have HQ := Lib.hid (show ((arrs t 1) ++ ents (t.y.take j)) ++ [(k, v)] <+: t.L by have h := HPX.out (j + 1); rw [HX.out.2.2, ← List.append_assoc] at h; exact h)
              have HQL := Lib.hid (show ((arrs t 1) ++ ents (t.y.take j)).length < t.L.length by have h := HQ.out.length_le; rw [List.length_append] at h; exact Nat.lt_of_lt_of_le (Nat.lt_succ_self _) h)
              gi_wp2_with (first
                | (refine wpListIn_load_mid rfl 133 (.tmp 33) (by rfl) ys (j * 37) (by rfl) (slotL (.full k v)) _ (by exact HR0.out) Try.underlying133 rfl (slot_sizeG _) ?_)
                | (refine wpListIn_store_mid rfl 133 (.tmp 6) (.tmp 34) (by rfl) wr.heap.size 0 (slotL (.full k v)).toArray (by rfl) (by rfl) (by exact HTH.out) (slot_sizeG _) (all_oneCell_toArray (slot_ones _)) ?_
                   obtain ⟨w2, hw2⟩ : ∃ w2, w2 = World.setCells (wr.alloc (.cells (slotL .empty).toArray 133)) wr.heap.size 0 (slotL (.full k v)).toArray.toList := ⟨_, rfl⟩
                   change wpListIn Fence.wide n Try.prog _ _ _ _ (World.setCells (wr.alloc (.cells (slotL .empty).toArray 133)) wr.heap.size 0 (slotL (.full k v)).toArray.toList)
                   rw [← hw2]
                   have H2 := Lib.hid (HF.out w2 hw2)
                   clear hw2 HF HTH
                   have cst : w2.cell? ⟨wr.heap.size, 0, none⟩ = some (.int .u8 1) := H2.out.2 0 _ rfl
                   obtain ⟨fn, tmps, assign, body, hy, hR⟩ := HY.out ((arrs t 1) ++ ents (t.y.take j)) (k, v) w2 (abides_mod HJ.out.1 HI.out.1 H2.out.1) HQL.out
                   dsimp only at hy
                   have HRK := Lib.hid (And.intro (range_key H2.out.2) (range_ent H2.out.2)))
                | (refine wpListIn_load_mid (by rfl) 39 (.tmp 40) (by rfl) wr.heap.size 1 (by rfl) k.L _ (by exact HRK.out.1) Try.underlying39 rfl (key_sizeG k.len) ?_)
                | (refine wpListIn_load_mid (by rfl) 56 (.tmp 42) (by rfl) wr.heap.size 33 (by rfl) v.L _ (by exact HRK.out.2) Try.underlying56 rfl (ent_sizeG v) ?_))
              refine ⟨fun c => (by cases c), ?_⟩
              refine hR.mono ?_
              rintro e W5 (⟨rfl, hJ5, hk5⟩ | ⟨rfl, hx5⟩)
              · gi_wp2_with fail
                go_roundw
                case rel => exact ⟨j + 1, HX.out.1, by go_num, by rw [HX.out.2.2]; show J ((arrs t 1) ++ (ents (t.y.take j) ++ [(k, v)])) W5; rw [← List.append_assoc]; exact hJ5, (HI.out.2.1.mod H2.out.1 (fun _ _ c => c)).kp hk5 (fun x hx => .inl hx.1), hk5 _ _ _ (.inr rfl) (HI.out.2.2.1.mod H2.out.1 (fun c => c)), (HI.out.2.2.2.mod H2.out.1 (fun c => c) (fun c => c)).kp hk5 (.inl HRG.out.1.1) (.inl HRG.out.2.1)⟩
                case measure =>
                  have := HX.out.1
                  rw [IntWalk.wrap64_in ((j : Int) + 1) (by have := HLB.out; omega)]
                  show t.y.length - ((j : Int) + 1).toNat < t.y.length - ((j : Int)).toNat
                  omega
              · gi_wp2_with fail
                refine bodyPost_ret (results_none rfl _ _ _) rfl ?_
                exact ⟨⟨_, rfl⟩, .inr ⟨_, HQ.out, hx5⟩⟩
          · obtain rfl : j = t.y.length := by omega
            have g1 : ¬ (t.y.length : Int) < (t.y.length : Int) := by omega
            clear hJj hTj hBj hAj hj hlt
            gi_wp2_with fail
            exact ⟨⟨2, by omega, rfl, by have h := HI.out.1; rw [List.take_length] at h; exact h, HI.out.2.1, HI.out.2.2.1⟩, by show 2 - (2 : Int).toNat < 2 - (1 : Int).toNat; decide⟩
      · rw [show (i : Int) = 2 by omega]
        subst hi1
        clear hJi hTi hBi hi hi0
        gi_wp2_with fail
        go_end0
        exact ⟨⟨_, rfl⟩, .inl ⟨_, rfl, HI.out.1⟩⟩
end Go.Proofs.Ytknbehjhaaidoaa.TB

