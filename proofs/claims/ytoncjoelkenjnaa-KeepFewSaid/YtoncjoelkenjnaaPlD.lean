/- keep.Plan: the parts. -/
import Derived.Test.YtoncjoelkenjnaaPlM
import Derived.Laws.EntriesVeiled
namespace Go.Proofs.Ytoncjoelkenjnaa.PL
open Go.RowKit Mem Go.Proofs.Ytoncjoelkenjnaa.Days Go.Proofs.Ytoncjoelkenjnaa.SS
set_option linter.unusedVariables false
set_option linter.unusedSimpArgs false

/-- The parts' cells; kc is the cell that holds the closure of the day. -/
def partCells (kc : Nat) (l h d k m y : Int) : Array Value := #[.int .u8 1, .int .i16 l, .func (.func 49) #[] #[], .int .u8 2, .int .i16 h, .func (.func 50) #[] #[], .int .u8 4, .int .i16 d, .func (.func 51) #[] #[], .int .u8 8, .int .i16 k, .func (.func 52) #[] #[], .int .u8 16, .int .i16 m, .func (.func 53) #[] #[.pointer (some ⟨kc, 0, none⟩)], .int .u8 32, .int .i16 y, .func (.func 54) #[] #[.pointer (some ⟨kc, 0, none⟩)]]
structure PartsAt (w0 w : World) (g kc : Nat) (l h d k m y : Int) : Prop where
  blk : Blk w g 83 (partCells kc l h d k m y)
  fn : w.cell? ⟨kc, 0, none⟩ = some (.func (.func 48) #[] #[])
  new1 : w0.heap.size ≤ g
  new2 : w0.heap.size ≤ kc
set_option maxRecDepth 100000 in
set_option maxHeartbeats 1000000 in
theorem parts_any (l h d k m y v : Int) (w : World) : Calls Try.prog 40 #[rv l h d k m y v] w fun e w' => ∃ g kc, e = .returned (.slice (some ⟨g, 0, none⟩) 6 6) ∧ PartsAt w w' g kc l h d k m y ∧ Mod no w w' := by
  unfold rv
  go_enter Try.func40, Try.ntmps40
  go_wp2_with fail
  go_ret
  refine ⟨w.heap.size + 1 + 1, w.heap.size + 1, rfl, ⟨?_, ?_, by omega, by omega⟩, ?_⟩
  · exact Blk.new_at _ _ _ (by simp)
  · have hb := fun (o o2 : Obj) => ((Blk.new_at (n := w.heap.size + 1) (w.alloc o) 69 #[.func (.func 48) #[] #[]] (by simp)).alloc o2).cell 0
    exact (hb _ _).trans rfl
  · exact (((Mod.refl no w).alloc _).alloc _).alloc _
end Go.Proofs.Ytoncjoelkenjnaa.PL
