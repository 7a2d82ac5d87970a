/- The law's put: what it is told, what it adds. -/
import Derived.Test.YtpfkcejndjnbhaaRefC
import Derived.Deep.RegionHeld3
namespace Go.Proofs.Ytpfkcejndjnbhaa.EN
open Go.RowKit Mem WM
open Go.Proofs.Ytpfkcejndjnbhaa.WD (RdT u8_info rowS wpList_put1 own_mod key_size)
open Go.Proofs.Ytpfkcejndjnbhaa.OP (atA cell_lt)
set_option linter.unusedVariables false
set_option linter.unusedSimpArgs false

/-- What an add adds. -/
def addA (kind : Int) (N : Nat) (S B K : List UInt8) : List UInt8 :=
  if kind = 1 then varBytes N else if kind = 2 then varBytes S.length ++ S else if kind = 3 then B else if kind = 4 then K else if kind = 13 then varBytes B.length ++ B else fixBytes (WM.width kind) N
/-- An Add. -/
def addL (kind : Int) (N : Nat) (S : List UInt8) (A : Option Addr) (n c : Nat) (K : List UInt8) : List Value := [.int .i64 kind, .int .u64 (N : Int), .string ⟨S.toArray⟩, .slice A n c] ++ bvs K
def addV (kind : Int) (N : Nat) (S : List UInt8) (A : Option Addr) (n c : Nat) (K : List UInt8) : Value := .agg (addL kind N S A n c K).toArray

theorem addA_len (kind : Int) (N : Nat) (S B K : List UInt8) (hN : N < 18446744073709551616) (hS : S.length < 18446744073709551616) (hB : B.length < 18446744073709551616) : (addA kind N S B K).length ≤ 18 + S.length + B.length + K.length := by
  have h1 := varBytes_10 hN
  have h2 := varBytes_10 hS
  have h3 := varBytes_10 hB
  have h4 := fixBytes_length (WM.width kind) N
  have h5 : WM.width kind ≤ 8 := by unfold WM.width; (repeat' split) <;> omega
  unfold addA
  repeat' split
  all_goals (try simp only [List.length_append]); omega

/-- As Added, of either state. -/
def AddedR (w : World) (g : Nat) (A : Option Addr) (bs' : List UInt8) (w' : World) : Prop := ∃ A', nextA w A A' ∧ EncR w' g A' bs' ∧ Mod (encS g A) w w'
theorem Added.r {w : World} {g : Nat} {A : Option Addr} {bs' : List UInt8} {w' : World} (h : Added w g A bs' w') : AddedR w g A bs' w' := by
  obtain ⟨A', h1, h2, h3⟩ := h
  exact ⟨A', h1, .inl h2, h3⟩
theorem Added.from {w w1 : World} {g : Nat} {A : Option Addr} {bs' : List UInt8} {w' : World} (M : Mod no w w1) (h : Added w1 g A bs' w') : Added w g A bs' w' := by
  obtain ⟨A', h1, h2, h3⟩ := h
  exact ⟨A', (nextA.refl w A).trans h1 M.size, h2, (M.mono (S' := encS g A) (fun _ _ c => False.elim c)).and_then h3⟩

section
variable (kind : Int) (N : Nat) (S : List UInt8) (A : Option Addr) (n c : Nat) (K : List UInt8)
theorem addL_0 : (addL kind N S A n c K)[0]? = some (.int .i64 kind) := rfl
theorem addL_1 : (addL kind N S A n c K)[1]? = some (.int .u64 (N : Int)) := rfl
theorem addL_2 : (addL kind N S A n c K)[2]? = some (.string ⟨S.toArray⟩) := rfl
theorem addL_3 : (addL kind N S A n c K)[3]? = some (.slice A n c) := rfl
theorem addL_blk (w : World) : Blk (w.alloc (.cells (addL kind N S A n c K).toArray 32)) w.heap.size 32 (addL kind N S A n c K).toArray := Blk.new w _ _
end

theorem add_cells {w : World} {q : Nat} {kind : Int} {N : Nat} {S : List UInt8} {A : Option Addr} {n c : Nat} {K : List UInt8} (h : Blk w q 32 (addL kind N S A n c K).toArray) :
    w.cell? ⟨q, 0, none⟩ = some (.int .i64 kind) ∧ w.cell? ⟨q, 1, none⟩ = some (.int .u64 (N : Int)) ∧ w.cell? ⟨q, 2, none⟩ = some (.string ⟨S.toArray⟩) ∧ w.cell? ⟨q, 3, none⟩ = some (.slice A n c) ∧ w.rangeAt q 4 (bvs K) := by
  refine ⟨by rw [h.cell]; rfl, by rw [h.cell]; rfl, by rw [h.cell]; rfl, by rw [h.cell]; rfl, fun j v hv => ?_⟩
  rw [h.cell, List.getElem?_toArray, addL, List.getElem?_append_right (by simp)]
  simpa using hv

end Go.Proofs.Ytpfkcejndjnbhaa.EN
