/- The law WireOnly, as its frame takes it. -/
import Derived.Test.YtpfkcejndjnbhaaOnlyW
namespace Go.Proofs.Ytpfkcejndjnbhaa.ON
open Go.ChangeShapes Go.WideShapes Go.ChangeAt Go.RowKit Mem WM OP
set_option linter.unusedVariables false

set_option maxRecDepth 100000 in
theorem only_core (H : Type) (enc : TypeId × Value → H) (W : World) (base : Nat) (v0 : Value) (d0 : DataW H) (p0 : List MemPlace) (v1 : Value) (d1 : DataW H) (p1 : List MemPlace)
    (o0 : Value.okWide Try.prog W .any base 23 v0) (o1 : Value.okWide Try.prog W .any base 64 v1)
    (h0 : DataW.Trod enc Try.prog W 0 (fun _ => true) true 23 v0 d0 p0) (h1 : DataW.Trod enc Try.prog W 0 (fun _ => true) true 64 v1 d1 p1)
    (hk : Rows.uptoSmall H ([d0, d1] ++ []) = true) :
    Calls Try.prog 7 #[v0, v1] W fun e w' => e = .returned (.bool true) ∧ Below W.heap.size W w' := by
  have hb := bulks.most hk
  simp only [List.append_nil, Rows.uptoBulkAll] at hb
  obtain ⟨A, l, c, rfl, hR, hl, _⟩ := open_bytes o0 h0
  obtain ⟨A2, n, c2, E, D, Pl, f, rfl, hE, _, hn, _, hel⟩ := open_elems Try.underlying64 take_cells (by decide) o1 h1
  refine (only_law hR (by omega) hE (by omega) (fun i hi => take_read (hel i hi))).mono ?_
  rintro e w' ⟨he, M⟩
  exact ⟨he, M.below (Nat.le_refl _) (fun k hk c => c.elim)⟩
end Go.Proofs.Ytpfkcejndjnbhaa.ON
