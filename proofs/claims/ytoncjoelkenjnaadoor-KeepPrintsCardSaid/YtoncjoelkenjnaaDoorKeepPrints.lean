/- KeepPrints returns true: whatever the rule, keep.Print writes the document's text, and keep.Parse reads it back. No condition. A tied card: the tables and the errors of strconv are as the program's text lays them; the walk reads them. -/
import Derived.Test.YtoncjoelkenjnaaDoorRows
import Derived.Test.YtoncjoelkenjnaaDoorCards
import Derived.Test.YtoncjoelkenjnaaDoorTie
import Derived.Test.YtoncjoelkenjnaaDoorKrH
import Derived.WalkKit
import Derived.ProofKit
import Derived.OpenShut
import Derived.ShutString
import Derived.ChangeOld
import Derived.Below
import Derived.LaidMore
import Derived.LaidLaws
import Derived.Lay
import Derived.SevenTiedAt
import Derived.Stop.Joined
import Derived.Stop.LaidErr
import Derived.JoinedCond
import Derived.Deep.DeepHandedRow
import Derived.Lib.LaidIn
import Derived.Lib.LaidTab
import Derived.Lib.LaidU8
import Derived.Lib.SmallJoins
namespace Go.Proofs.YtoncjoelkenjnaaDoor.keepPrints
open Go.ChangeShapes Go.WideShapes Go.ChangeAt Go.RowKit
open Go.ChangeMaps (open_string shut_string)
set_option linter.unusedVariables false
set_option linter.unusedSimpArgs false

theorem own : ownKnob Tryd.prog.godebug = none := by kernel_rfl
theorem laidOut : laidOutB Tryd.prog = true := by kernel_rfl
/-- The variable MaxLen holds an int, whatever it be. -/
theorem maxlen (w : World) (h : w.ShapedOpen Tryd.prog) : ∃ m : Int, w.cell? ⟨3, 0, none⟩ = some (.int .i64 m) :=
  cell_of_shapedOpen_int (zero := #[.int .i64 0]) (t := 3) h (of_decide_eq_true (by kernel_rfl)) (by kernel_rfl) rfl (by kernel_rfl) (by kernel_rfl) Tryd.underlying3
theorem data_pow : (Rows.laid_internal_strconv_uint64pow10 : DataW Unit) = Lib.tabData .u64 Lib.pow10Tab := by kernel_rfl
theorem plain {W : World} (h : laidMetH Tryd.prog Rows.keepPrintsRow.laid W) : laidMet Tryd.prog Rows.keepPrintsRow.laid W := by
  rw [MakeChecks.laidMetH_plain _ _ _ (by kernel_rfl)] at h
  exact h
theorem tab {W : World} (h : laidMetH Tryd.prog Rows.keepPrintsRow.laid W) : KR.TW W := by
  have h1 : Lib.VarReads Tryd.prog W "internal/strconv.uint64pow10" Rows.laid_internal_strconv_uint64pow10 := Lib.laidMet.reads (plain h) (.tail _ (.tail _ (.head _)))
  rw [data_pow] at h1
  obtain ⟨g', t', cs, fuel, p, hg', ht', hvar, hd⟩ := h1
  obtain rfl := Option.some.inj ((show Tryd.prog.globalNamed "internal/strconv.uint64pow10" = some 0 by kernel_rfl).symm.trans hg')
  obtain rfl := Option.some.inj ((show (Tryd.prog.globals[0]?).map (·.type) = some 78 by kernel_rfl).symm.trans ht')
  unfold KR.TW Lib.TabIs
  rw [hvar, ← Lib.cells_of_tab Tryd.underlying78 Tryd.underlying61 (by kernel_rfl) (by kernel_rfl) hd]
theorem star : "*" ++ "errors.errorString" = "*errors.errorString" := by decide
theorem rowNamed (u : TypeId) (h : Tryd.prog.typeName? 3 u = some "*errors.errorString") : u = 96 :=
  typeName_ptr_named (nm := "errors.errorString") (by rw [star]; kernel_rfl) (by kernel_rfl) (by decide) u (by rw [star]; exact h)
theorem errs {W : World} (h : laidMetH Tryd.prog Rows.keepPrintsRow.laid W) : KR.VW W := by
  have h4 := (plain h).tail.tail.tail.tail
  obtain ⟨a, s, h1, _⟩ := laid_sentinel (tp := 96) h4 (show Tryd.prog.globalNamed "strconv.ErrRange" = some 2 by kernel_rfl) (by kernel_rfl) Tryd.underlying44 rowNamed Tryd.underlying96 Tryd.underlying98 rfl rfl Tryd.underlying9 (by kernel_rfl) (by kernel_rfl)
  obtain ⟨b, s', h2, _⟩ := laid_sentinel (tp := 96) h4.tail (show Tryd.prog.globalNamed "strconv.ErrSyntax" = some 1 by kernel_rfl) (by kernel_rfl) Tryd.underlying44 rowNamed Tryd.underlying96 Tryd.underlying98 rfl rfl Tryd.underlying9 (by kernel_rfl) (by kernel_rfl)
  exact ⟨⟨_, _, h2⟩, ⟨_, _, h1⟩⟩
theorem bd16 {n : Int} (h : (Lit.int .i16 n).wf = true) : KR.I16 n := by
  simp [Lit.wf] at h
  have h1 : IntKind.i16.min = -32768 := by decide
  have h2 : IntKind.i16.max = 32767 := by decide
  first | exact ⟨by omega, by omega⟩ | (rw [h1] at h; exact ⟨h.1, h.2⟩)
theorem bd64 {n : Int} (h : (Lit.int .i64 n).wf = true) : KR.I64 n := by
  simp [Lit.wf] at h
  have h1 : IntKind.i64.min = -9223372036854775808 := by decide
  rw [h1] at h
  exact ⟨h.1, h.2⟩
theorem list7 {α : Type} {l : List α} (h : l.length = 7) : ∃ a b c d e f g, l = [a, b, c, d, e, f, g] := by
  match l, h with
  | [a, b, c, d, e, f, g], _ => exact ⟨a, b, c, d, e, f, g, rfl⟩
theorem open_rule {H : Type} {enc : TypeId × Value → H} {W : World} {base : Nat} {v : Value} {d : DataW H} {p : List MemPlace} (o : Value.okWide Tryd.prog W .any base 24 v) (h : DataW.Trod enc Tryd.prog W 0 (fun _ => true) true 24 v d p) :
    ∃ r : KR.Rule, r.In ∧ v = KR.Rv r.l r.h r.d r.w r.m r.y r.x := by
  obtain ⟨cs, rfl, hl⟩ := okWide_struct Tryd.underlying24 o
  rw [show Tryd.prog.cellsOf 24 = 7 by kernel_rfl] at hl
  obtain ⟨l⟩ := cs
  obtain ⟨c0, c1, c2, c3, c4, c5, c6, rfl⟩ := list7 hl
  obtain ⟨fuel, hf⟩ := h
  obtain ⟨xs, n, _, _, _, hlen, hel⟩ := DataW.trod_struct Tryd.underlying24 hf
  have k16 : Tryd.prog.cellsOf 22 = 1 := by kernel_rfl
  have k64 : Tryd.prog.cellsOf 2 = 1 := by kernel_rfl
  have hs : ∀ i : Nat, i < 7 → ∃ x, xs[i]? = some x := fun i hi => ⟨_, List.getElem?_eq_getElem (by rw [hlen]; exact hi)⟩
  obtain ⟨x0, hx0⟩ := hs 0 (by decide)
  have e0 := hel 0 _ rfl
  rw [hx0] at e0
  simp only [Value.cells, List.drop_succ_cons, List.drop_zero, k16, List.take_succ_cons, List.take_zero] at e0
  obtain ⟨n0, q0, _, w0⟩ := DataW.trod_int Tryd.underlying22 e0
  injection q0 with q0 _
  subst q0
  obtain ⟨x1, hx1⟩ := hs 1 (by decide)
  have e1 := hel 1 _ rfl
  rw [hx1] at e1
  simp only [Value.cells, List.drop_succ_cons, List.drop_zero, k16, List.take_succ_cons, List.take_zero] at e1
  obtain ⟨n1, q1, _, w1⟩ := DataW.trod_int Tryd.underlying22 e1
  injection q1 with q1 _
  subst q1
  obtain ⟨x2, hx2⟩ := hs 2 (by decide)
  have e2 := hel 2 _ rfl
  rw [hx2] at e2
  simp only [Value.cells, List.drop_succ_cons, List.drop_zero, k16, List.take_succ_cons, List.take_zero] at e2
  obtain ⟨n2, q2, _, w2⟩ := DataW.trod_int Tryd.underlying22 e2
  injection q2 with q2 _
  subst q2
  obtain ⟨x3, hx3⟩ := hs 3 (by decide)
  have e3 := hel 3 _ rfl
  rw [hx3] at e3
  simp only [Value.cells, List.drop_succ_cons, List.drop_zero, k16, List.take_succ_cons, List.take_zero] at e3
  obtain ⟨n3, q3, _, w3⟩ := DataW.trod_int Tryd.underlying22 e3
  injection q3 with q3 _
  subst q3
  obtain ⟨x4, hx4⟩ := hs 4 (by decide)
  have e4 := hel 4 _ rfl
  rw [hx4] at e4
  simp only [Value.cells, List.drop_succ_cons, List.drop_zero, k16, List.take_succ_cons, List.take_zero] at e4
  obtain ⟨n4, q4, _, w4⟩ := DataW.trod_int Tryd.underlying22 e4
  injection q4 with q4 _
  subst q4
  obtain ⟨x5, hx5⟩ := hs 5 (by decide)
  have e5 := hel 5 _ rfl
  rw [hx5] at e5
  simp only [Value.cells, List.drop_succ_cons, List.drop_zero, k16, List.take_succ_cons, List.take_zero] at e5
  obtain ⟨n5, q5, _, w5⟩ := DataW.trod_int Tryd.underlying22 e5
  injection q5 with q5 _
  subst q5
  obtain ⟨x6, hx6⟩ := hs 6 (by decide)
  have e6 := hel 6 _ rfl
  rw [hx6] at e6
  simp only [Value.cells, List.drop_succ_cons, List.drop_zero, k64, List.take_succ_cons, List.take_zero] at e6
  obtain ⟨n6, q6, _, w6⟩ := DataW.trod_int Tryd.underlying2 e6
  injection q6 with q6 _
  subst q6
  exact ⟨⟨n0, n1, n2, n3, n4, n5, n6⟩, ⟨bd16 w0, bd16 w1, bd16 w2, bd16 w3, bd16 w4, bd16 w5, bd64 w6⟩, rfl⟩
theorem core (H : Type) (enc : TypeId × Value → H) (W : World) (base : Nat) (v0 : Value) (d0 : DataW H) (p0 : List MemPlace) (o0 : Value.okWide Tryd.prog W .any base 24 v0) (h0 : DataW.Trod enc Tryd.prog W 0 (fun _ => true) true 24 v0 d0 p0)
    (hL : laidMetH Tryd.prog Rows.keepPrintsRow.laid W) (hsh : W.ShapedOpen Tryd.prog) : Calls Tryd.prog 3 #[v0] W fun e w' => e = .returned (.bool true) ∧ Below W.heap.size W w' := by
  obtain ⟨r, hi, rfl⟩ := open_rule o0 h0
  obtain ⟨m, hm⟩ := maxlen W hsh
  exact (KR.prints_law hi (tab hL) (errs hL) hm).mono fun e w' ⟨he, h⟩ => ⟨he, h.below (Nat.le_refl _) (fun _ _ c => c.elim)⟩
set_option maxRecDepth 100000 in
theorem contract (H : Type) (enc : TypeId × Value → H) (F : Stop.Interp) (W : World) (base : Nat) (args : Array Value) (ds gs : List (DataW H)) (before : List MemPlace)
    (hval0 : ∀ (j : Nat) t v, Tryd.f3.params[j]? = some t → args[j]? = some v → Value.okWide Tryd.prog W .any base t v)
    (hW : DataW.Whole enc Tryd.prog Tryd.f3.params.toList (OpenSpec.ofChange Rows.keepPrintsSpec).vars false W args.toList ds gs before)
    (hk : ∀ k, (OpenSpec.ofChange Rows.keepPrintsSpec).cond = some k → k H (ds ++ gs) = true)
    (hL : laidMetH Tryd.prog Rows.keepPrintsRow.laid W) (hsh : W.ShapedOpen Tryd.prog) :
    Calls Tryd.prog 3 args W fun e W' => ∃ v, e = .returned v ∧ ((OpenSpec.ofChange Rows.keepPrintsSpec).at F).post enc Tryd.prog Tryd.f3 false true false false W args v W' := by
  have hval : ∀ (j : Nat) t v, Tryd.f3.params[j]? = some t → args[j]? = some v → Value.okWide Tryd.prog W .any base t v := hval0
  have hW' := hW
  obtain ⟨p, q, hA0, hV, rfl, hfz, hnd⟩ := hW
  have hA : DataW.TrodAll enc Tryd.prog W 0 (fun _ => true) true Tryd.f3.params.toList args.toList ds p := hA0
  rw [Tryd.params3] at hA hval
  obtain ⟨v0, vs0, d0, ds0, p0, q0, hargs, rfl, rfl, h0, r0⟩ := trodAll_cons hA
  obtain ⟨rfl, rfl, rfl⟩ := trodAll_nil r0
  obtain rfl : args = #[v0] := by cases args; simp_all
  obtain ⟨rfl, rfl⟩ := trodVars_none hV
  have lt0 : ∀ x ∈ p0, x.block < W.heap.size := by obtain ⟨m, hm⟩ := h0; exact DataW.trod_lt m _ _ _ hm
  clear hA0 hval0
  refine (core H enc W base v0 d0 p0 (hval 0 24 v0 rfl rfl) h0 hL hsh).mono fun e W' ⟨he, bel⟩ => ?_
  subst he
  exact ⟨_, rfl, _, _, _, [], _, [], hW', trodAll_mk1 (shut_bool Tryd.underlying4 _), (trodAll_cons_mk (Below.trod laidOut (by kernel_rfl) (of_decide_eq_true (by kernel_rfl)) h0 bel lt0) trodAll_mk0), rfl, bel.frame _, fun h => by cases h⟩
set_option maxRecDepth 100000 in
theorem wit (os : Os) (H : Type) (enc : TypeId × Value → H) : ∃ (w : World) (tape : Tape) (i : Input), w.os = os ∧ (w.forCall tape i).Shaped Tryd.checked.prog ∧ i.vars = [] ∧ Input.okWide Tryd.checked.prog (w.forCall tape i) .any w.heap.size 3 i ∧
      (OpenSpec.ofChange Rows.keepPrintsSpec).preRow enc Tryd.checked.prog Tryd.f3 Rows.keepPrintsRow.domain false Rows.keepPrintsRow.laid (w.forCall tape i).memory i.args ∧ ({} : Assume).holds Tryd.checked.prog (lone (Frame.enter Tryd.checked.prog 3 i.args .normal) [] (w.forCall tape i)) := by
  refine ⟨World.laidAll Tryd.prog os Rows.keepPrintsRow.laid, fun _ _ => 0, ⟨#[], #[.agg #[.int .i16 0, .int .i16 0, .int .i16 0, .int .i16 0, .int .i16 0, .int .i16 0, .int .i64 0]], []⟩, World.laidAll_os _ _ _, World.shaped_of_ZipB (by kernel_rfl) (by kernel_rfl), rfl, (Input.okWide_of_okWideB (base := 0) (by kernel_rfl)).2, ⟨⟨?_, ?_⟩, sizedMet_of_sizedB (fuel := 8) (by kernel_rfl)⟩, ?_⟩
  · exact ChangeSpec.pre_of_preB (fuel := 8) (by kernel_rfl)
  · rw [MakeChecks.laidMetH_plain _ _ _ (by kernel_rfl)]; exact laidMet_laidAll _ (by kernel_rfl) (by kernel_rfl)
  · simp only [Assume.holds]
    exact ⟨by simp, by simp, fun _ => Modest.zero, by simp, by simp⟩

set_option maxRecDepth 100000 in
theorem lifted (os : Os) (started : os.Started) (H : Type) (enc : TypeId × Value → H) (F : Stop.Interp) :
    ReturnsInHanded {} Tryd.checked os 3 .any ((OpenSpec.ofChange Rows.keepPrintsSpec).preRow enc Tryd.checked.prog Tryd.f3 Rows.keepPrintsRow.domain false Rows.keepPrintsRow.laid) (((OpenSpec.ofChange Rows.keepPrintsSpec).at F).post enc Tryd.checked.prog Tryd.f3 false true false false) := by
  refine returnsInHanded_of_row (C := Tryd.checked) own started (by kernel_rfl) Tryd.func3 (wit os H enc) ?_
  intro W base args ds gs before hval hW _ hk _ hL hsh _
  exact contract H enc F W base args ds gs before hval hW hk hL hsh

theorem over : Rows.keepPrintsRow.holds Tryd.pinned (OpenSpec.ofChange Rows.keepPrintsSpec) :=
  OpenClaim.holds_of_cond 3 Tryd.f3 rfl rfl rfl rfl rfl rfl rfl ⟨rfl, rfl, rfl, rfl, rfl⟩ rfl rfl rfl rfl rfl (by kernel_rfl) Tryd.func3 (by kernel_rfl)
    (of_decide_eq_true (by kernel_rfl)) (by unfold Func.isWrapper; first | (rw [if_pos (by decide +kernel)]; kernel_rfl) | (rw [if_neg (by decide +kernel)]; exact ⟨rfl, rfl⟩))
    (fun os started H enc _ F => by rw [OpenClaim.pre_eq_preRow]; exact lifted os started H enc F)

theorem proved : Rows.KeepPrintsCardSaid :=
  Claim7.holds_tied_plain_at .later [] [.data, .data, .data, .data, .sentinel, .sentinel, .pinned] true (true, "e4eb25f863e2e775471071a2aed9ac2a8011256e7d59b88da1000e5df9cb3511") true over (fun _ h => by cases h) (by kernel_rfl) (fun _ h => by cases h) keepPrints_row_tie rfl ⟨rfl, rfl⟩ (by kernel_rfl) rfl
    (fun f fn hf hfn => by
      obtain rfl : f = 3 := Option.some.inj ((show Tryd.prog.funcNamed "gleaner/gleanerlaw28.KeepPrints" = some 3 by kernel_rfl).symm.trans hf) |>.symm
      obtain rfl : fn = Tryd.f3 := (Option.some.inj (Tryd.func3.symm.trans hfn)).symm
      exact ⟨by kernel_rfl, fun j t ht => by
        rw [Tryd.params3] at ht
        have hm : t ∈ [24] := by simpa using Array.mem_of_getElem? ht
        have hall : ([24].all fun u => !Tryd.prog.wantsStandIn u) = true := by kernel_rfl
        exact (show Tryd.prog.wantsStandIn t = false by simpa using List.all_eq_true.1 hall t hm)⟩)
    (by kernel_rfl)
#print axioms proved
end Go.Proofs.YtoncjoelkenjnaaDoor.keepPrints
