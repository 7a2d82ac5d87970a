/- The law on what was added and is taken off, as its frame takes it. -/
import Derived.Test.YtpfkcejndjnbhaaBackL
namespace Go.Proofs.Ytpfkcejndjnbhaa.BK
open Go.ChangeShapes Go.WideShapes Go.ChangeAt Go.RowKit Mem WM OP
set_option linter.unusedVariables false

set_option maxRecDepth 100000 in
theorem back_core (H : Type) (enc : TypeId × Value → H) (W : World) (base : Nat) (v0 : Value) (d0 : DataW H) (p0 : List MemPlace)
    (o0 : Value.okWide Try.prog W .any base 22 v0)
    (h0 : DataW.Trod enc Try.prog W 0 (fun _ => true) true 22 v0 d0 p0)
    (hk : Rows.uptoSmall H ([d0] ++ []) = true) :
    Calls Try.prog 9 #[v0] W fun e w' => e = .returned (.bool true) ∧ Below W.heap.size W w' := by
  have hb := bulks.most hk
  simp only [List.append_nil, Rows.uptoBulkAll] at hb
  obtain ⟨A, n, c, E, F, rfl, hE, hn, hF, hall⟩ := open_adds (by omega) o0 h0
  refine (back_law hE (by omega) (fun i hi => ⟨(hF i hi).1, (hF i hi).2.1, by have := (hF i hi).2.2; omega⟩) (by omega)).mono ?_
  rintro e w' ⟨he, M⟩
  exact ⟨he, M.below (Nat.le_refl _) (fun k hk c => c.elim)⟩
end Go.Proofs.Ytpfkcejndjnbhaa.BK
