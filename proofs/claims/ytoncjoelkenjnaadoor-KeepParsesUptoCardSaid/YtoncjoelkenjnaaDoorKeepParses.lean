/- KeepParses returns true: whatever the text, keep.Parse answers as the document's Parse does, and what is taken is printed as that text. Where what it reads is of bulk at most 1048576 (the second form). A tied card: the tables and the errors of strconv are as the program's text lays them; the walk reads them. -/
import Derived.Test.YtoncjoelkenjnaaDoorRows
import Derived.Test.YtoncjoelkenjnaaDoorCards
import Derived.Test.YtoncjoelkenjnaaDoorTie
import Derived.Test.YtoncjoelkenjnaaDoorKrH
import Derived.WalkKit
import Derived.ProofKit
import Derived.OpenShut
import Derived.ShutString
import Derived.ChangeOld
import Derived.Below
import Derived.LaidMore
import Derived.LaidLaws
import Derived.Lay
import Derived.SevenTiedAt
import Derived.Stop.Joined
import Derived.Stop.LaidErr
import Derived.JoinedCond
import Derived.Deep.DeepHandedRow
import Derived.Lib.LaidIn
import Derived.Lib.LaidTab
import Derived.Lib.LaidU8
import Derived.Lib.SmallJoins
namespace Go.Proofs.YtoncjoelkenjnaaDoor.keepParses
open Go.ChangeShapes Go.WideShapes Go.ChangeAt Go.RowKit
open Go.ChangeMaps (open_string shut_string)
set_option linter.unusedVariables false
set_option linter.unusedSimpArgs false

theorem own : ownKnob Tryd.prog.godebug = none := by kernel_rfl
theorem laidOut : laidOutB Tryd.prog = true := by kernel_rfl
/-- The variable MaxLen holds an int, whatever it be. -/
theorem maxlen (w : World) (h : w.ShapedOpen Tryd.prog) : ∃ m : Int, w.cell? ⟨3, 0, none⟩ = some (.int .i64 m) :=
  cell_of_shapedOpen_int (zero := #[.int .i64 0]) (t := 3) h (of_decide_eq_true (by kernel_rfl)) (by kernel_rfl) rfl (by kernel_rfl) (by kernel_rfl) Tryd.underlying3
theorem data_pow : (Rows.laid_internal_strconv_uint64pow10 : DataW Unit) = Lib.tabData .u64 Lib.pow10Tab := by kernel_rfl
theorem plain {W : World} (h : laidMetH Tryd.prog Rows.keepParsesUptoRow.laid W) : laidMet Tryd.prog Rows.keepParsesUptoRow.laid W := by
  rw [MakeChecks.laidMetH_plain _ _ _ (by kernel_rfl)] at h
  exact h
theorem tab {W : World} (h : laidMetH Tryd.prog Rows.keepParsesUptoRow.laid W) : KR.TW W := by
  have h1 : Lib.VarReads Tryd.prog W "internal/strconv.uint64pow10" Rows.laid_internal_strconv_uint64pow10 := Lib.laidMet.reads (plain h) (.tail _ (.tail _ (.head _)))
  rw [data_pow] at h1
  obtain ⟨g', t', cs, fuel, p, hg', ht', hvar, hd⟩ := h1
  obtain rfl := Option.some.inj ((show Tryd.prog.globalNamed "internal/strconv.uint64pow10" = some 0 by kernel_rfl).symm.trans hg')
  obtain rfl := Option.some.inj ((show (Tryd.prog.globals[0]?).map (·.type) = some 78 by kernel_rfl).symm.trans ht')
  unfold KR.TW Lib.TabIs
  rw [hvar, ← Lib.cells_of_tab Tryd.underlying78 Tryd.underlying61 (by kernel_rfl) (by kernel_rfl) hd]
theorem star : "*" ++ "errors.errorString" = "*errors.errorString" := by decide
theorem rowNamed (u : TypeId) (h : Tryd.prog.typeName? 3 u = some "*errors.errorString") : u = 96 :=
  typeName_ptr_named (nm := "errors.errorString") (by rw [star]; kernel_rfl) (by kernel_rfl) (by decide) u (by rw [star]; exact h)
theorem errs {W : World} (h : laidMetH Tryd.prog Rows.keepParsesUptoRow.laid W) : KR.VW W := by
  have h4 := (plain h).tail.tail.tail.tail
  obtain ⟨a, s, h1, _⟩ := laid_sentinel (tp := 96) h4 (show Tryd.prog.globalNamed "strconv.ErrRange" = some 2 by kernel_rfl) (by kernel_rfl) Tryd.underlying44 rowNamed Tryd.underlying96 Tryd.underlying98 rfl rfl Tryd.underlying9 (by kernel_rfl) (by kernel_rfl)
  obtain ⟨b, s', h2, _⟩ := laid_sentinel (tp := 96) h4.tail (show Tryd.prog.globalNamed "strconv.ErrSyntax" = some 1 by kernel_rfl) (by kernel_rfl) Tryd.underlying44 rowNamed Tryd.underlying96 Tryd.underlying98 rfl rfl Tryd.underlying9 (by kernel_rfl) (by kernel_rfl)
  exact ⟨⟨_, _, h2⟩, ⟨_, _, h1⟩⟩
theorem core (H : Type) (enc : TypeId × Value → H) (W : World) (base : Nat) (v0 : Value) (d0 : DataW H) (p0 : List MemPlace) (o0 : Value.okWide Tryd.prog W .any base 9 v0) (h0 : DataW.Trod enc Tryd.prog W 0 (fun _ => true) true 9 v0 d0 p0)
    (hk : Rows.uptoSmall H ([d0] ++ []) = true)
    (hL : laidMetH Tryd.prog Rows.keepParsesUptoRow.laid W) (hsh : W.ShapedOpen Tryd.prog) : Calls Tryd.prog 4 #[v0] W fun e w' => e = .returned (.bool true) ∧ Below W.heap.size W w' := by
  obtain ⟨s, rfl, hd, _, ws⟩ := open_string Tryd.underlying9 o0 h0
  subst hd
  obtain ⟨m, hm⟩ := maxlen W hsh
  have hlen : s.data.toList.length ≤ 1048600 := by
    have h := of_decide_eq_true hk
    simp [Rows.uptoBulkAll, Rows.uptoBulk] at h
    have e : s.toList.length = s.data.toList.length := by rw [ByteArray.toList_eq]
    simp at e
    simp
    omega
  have h := KR.parses_law (l := s.data.toList) hlen (tab hL) (errs hL) hm
  rw [← KR.sv_of] at h
  exact h.mono fun e w' ⟨he, h⟩ => ⟨he, h.below (Nat.le_refl _) (fun _ _ c => c.elim)⟩
set_option maxRecDepth 100000 in
theorem contract (H : Type) (enc : TypeId × Value → H) (F : Stop.Interp) (W : World) (base : Nat) (args : Array Value) (ds gs : List (DataW H)) (before : List MemPlace)
    (hval0 : ∀ (j : Nat) t v, Tryd.f4.params[j]? = some t → args[j]? = some v → Value.okWide Tryd.prog W .any base t v)
    (hW : DataW.Whole enc Tryd.prog Tryd.f4.params.toList (Rows.OpenSpec.upto Rows.keepParsesSpec).vars false W args.toList ds gs before)
    (hk : ∀ k, (Rows.OpenSpec.upto Rows.keepParsesSpec).cond = some k → k H (ds ++ gs) = true)
    (hL : laidMetH Tryd.prog Rows.keepParsesUptoRow.laid W) (hsh : W.ShapedOpen Tryd.prog) :
    Calls Tryd.prog 4 args W fun e W' => ∃ v, e = .returned v ∧ ((Rows.OpenSpec.upto Rows.keepParsesSpec).at F).post enc Tryd.prog Tryd.f4 false true false false W args v W' := by
  have hval : ∀ (j : Nat) t v, Tryd.f4.params[j]? = some t → args[j]? = some v → Value.okWide Tryd.prog W .any base t v := hval0
  have hW' := hW
  obtain ⟨p, q, hA0, hV, rfl, hfz, hnd⟩ := hW
  have hA : DataW.TrodAll enc Tryd.prog W 0 (fun _ => true) true Tryd.f4.params.toList args.toList ds p := hA0
  rw [Tryd.params4] at hA hval
  obtain ⟨v0, vs0, d0, ds0, p0, q0, hargs, rfl, rfl, h0, r0⟩ := trodAll_cons hA
  obtain ⟨rfl, rfl, rfl⟩ := trodAll_nil r0
  obtain rfl : args = #[v0] := by cases args; simp_all
  obtain ⟨rfl, rfl⟩ := trodVars_none hV
  have lt0 : ∀ x ∈ p0, x.block < W.heap.size := by obtain ⟨m, hm⟩ := h0; exact DataW.trod_lt m _ _ _ hm
  clear hA0 hval0
  refine (core H enc W base v0 d0 p0 (hval 0 9 v0 rfl rfl) h0 (hk _ rfl) hL hsh).mono fun e W' ⟨he, bel⟩ => ?_
  subst he
  exact ⟨_, rfl, _, _, _, [], _, [], hW', trodAll_mk1 (shut_bool Tryd.underlying4 _), (trodAll_cons_mk (Below.trod laidOut (by kernel_rfl) (of_decide_eq_true (by kernel_rfl)) h0 bel lt0) trodAll_mk0), rfl, bel.frame _, fun h => by cases h⟩
set_option maxRecDepth 100000 in
theorem wit (os : Os) (H : Type) (enc : TypeId × Value → H) : ∃ (w : World) (tape : Tape) (i : Input), w.os = os ∧ (w.forCall tape i).Shaped Tryd.checked.prog ∧ i.vars = [] ∧ Input.okWide Tryd.checked.prog (w.forCall tape i) .any w.heap.size 4 i ∧
      (Rows.OpenSpec.upto Rows.keepParsesSpec).preRow enc Tryd.checked.prog Tryd.f4 Rows.keepParsesUptoRow.domain false Rows.keepParsesUptoRow.laid (w.forCall tape i).memory i.args ∧ ({} : Assume).holds Tryd.checked.prog (lone (Frame.enter Tryd.checked.prog 4 i.args .normal) [] (w.forCall tape i)) := by
  refine ⟨World.laidAll Tryd.prog os Rows.keepParsesUptoRow.laid, fun _ _ => 0, ⟨#[], #[.string ⟨#[]⟩], []⟩, World.laidAll_os _ _ _, World.shaped_of_ZipB (by kernel_rfl) (by kernel_rfl), rfl, (Input.okWide_of_okWideB (base := 0) (by kernel_rfl)).2, ⟨⟨?_, ?_⟩, sizedMet_of_sizedB (fuel := 8) (by kernel_rfl)⟩, ?_⟩
  · exact (OpenSpec.pre_some (k := Rows.uptoSmall) rfl _ _ _ _).2 ⟨[.lit (.string [])], [], [], DataW.Whole_of_whole (x := ([.lit (.string [])], [], [])) (fuel := 8) (by kernel_rfl), rfl, (by kernel_rfl)⟩
  · rw [MakeChecks.laidMetH_plain _ _ _ (by kernel_rfl)]; exact laidMet_laidAll _ (by kernel_rfl) (by kernel_rfl)
  · simp only [Assume.holds]
    exact ⟨by simp, by simp, fun _ => Modest.zero, by simp, by simp⟩

set_option maxRecDepth 100000 in
theorem lifted (os : Os) (started : os.Started) (H : Type) (enc : TypeId × Value → H) (F : Stop.Interp) :
    ReturnsInHanded {} Tryd.checked os 4 .any ((Rows.OpenSpec.upto Rows.keepParsesSpec).preRow enc Tryd.checked.prog Tryd.f4 Rows.keepParsesUptoRow.domain false Rows.keepParsesUptoRow.laid) (((Rows.OpenSpec.upto Rows.keepParsesSpec).at F).post enc Tryd.checked.prog Tryd.f4 false true false false) := by
  refine returnsInHanded_of_row (C := Tryd.checked) own started (by kernel_rfl) Tryd.func4 (wit os H enc) ?_
  intro W base args ds gs before hval hW _ hk _ hL hsh _
  exact contract H enc F W base args ds gs before hval hW hk hL hsh

theorem over : Rows.keepParsesUptoRow.holds Tryd.pinned (Rows.OpenSpec.upto Rows.keepParsesSpec) :=
  OpenClaim.holds_of_cond 4 Tryd.f4 rfl rfl rfl rfl rfl rfl rfl ⟨rfl, rfl, rfl, rfl, rfl⟩ rfl rfl rfl rfl rfl (by kernel_rfl) Tryd.func4 (by kernel_rfl)
    (of_decide_eq_true (by kernel_rfl)) (by unfold Func.isWrapper; first | (rw [if_pos (by decide +kernel)]; kernel_rfl) | (rw [if_neg (by decide +kernel)]; exact ⟨rfl, rfl⟩))
    (fun os started H enc _ F => by rw [OpenClaim.pre_eq_preRow]; exact lifted os started H enc F)

theorem proved : Rows.KeepParsesUptoCardSaid :=
  Claim7.holds_tied_plain_at .later [] [.data, .data, .data, .data, .sentinel, .sentinel, .pinned] true (true, "e4eb25f863e2e775471071a2aed9ac2a8011256e7d59b88da1000e5df9cb3511") true over (fun _ h => by cases h) (by kernel_rfl) (fun _ h => by cases h) keepParsesUpto_row_tie rfl ⟨rfl, rfl⟩ (by kernel_rfl) rfl
    (fun f fn hf hfn => by
      obtain rfl : f = 4 := Option.some.inj ((show Tryd.prog.funcNamed "gleaner/gleanerlaw28.KeepParses" = some 4 by kernel_rfl).symm.trans hf) |>.symm
      obtain rfl : fn = Tryd.f4 := (Option.some.inj (Tryd.func4.symm.trans hfn)).symm
      exact ⟨by kernel_rfl, fun j t ht => by
        rw [Tryd.params4] at ht
        have hm : t ∈ [9] := by simpa using Array.mem_of_getElem? ht
        have hall : ([9].all fun u => !Tryd.prog.wantsStandIn u) = true := by kernel_rfl
        exact (show Tryd.prog.wantsStandIn t = false by simpa using List.all_eq_true.1 hall t hm)⟩)
    (by kernel_rfl)
#print axioms proved
end Go.Proofs.YtoncjoelkenjnaaDoor.keepParses
