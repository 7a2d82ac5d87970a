/- The law WireAdds, as its frame takes it. -/
import Derived.Test.YtpfkcejndjnbhaaAddsL
namespace Go.Proofs.Ytpfkcejndjnbhaa.AD
open Go.ChangeShapes Go.WideShapes Go.ChangeAt Go.RowKit Mem WM OP
set_option linter.unusedVariables false

set_option maxRecDepth 100000 in
theorem adds_core (H : Type) (enc : TypeId × Value → H) (W : World) (base : Nat) (v0 : Value) (d0 : DataW H) (p0 : List MemPlace) (v1 : Value) (d1 : DataW H) (p1 : List MemPlace)
    (o0 : Value.okWide Try.prog W .any base 22 v0) (o1 : Value.okWide Try.prog W .any base 36 v1)
    (h0 : DataW.Trod enc Try.prog W 0 (fun _ => true) true 22 v0 d0 p0) (h1 : DataW.Trod enc Try.prog W 0 (fun _ => true) true 36 v1 d1 p1)
    (hk : Rows.uptoSmall H ([d0, d1] ++ []) = true) :
    Calls Try.prog 4 #[v0, v1] W fun e w' => e = .returned (.bool true) ∧ Below W.heap.size W w' := by
  have hb := bulks.most hk
  simp only [List.append_nil, Rows.uptoBulkAll] at hb
  obtain ⟨A, n, c, E, F, rfl, hE, hn, hF, hall⟩ := open_adds (by omega) o0 h0
  obtain ⟨A2, m, c2, E2, D, Pl, f, rfl, hE2, _, hm, _, hel⟩ := open_elems Try.underlying36 bool_cells (by decide) o1 h1
  refine (adds_law hE (by omega) (fun i hi => ⟨(hF i hi).1, (hF i hi).2.1, by have := (hF i hi).2.2; omega⟩) (by omega) hE2 (by omega) (fun i hi => ?_)).mono ?_
  · obtain ⟨b, hb2, _⟩ := DataW.trod_bool Try.underlying4 (hel i hi)
    exact ⟨b, hb2⟩
  rintro e w' ⟨he, M⟩
  exact ⟨he, M.below (Nat.le_refl _) (fun k hk c => c.elim)⟩
end Go.Proofs.Ytpfkcejndjnbhaa.AD
