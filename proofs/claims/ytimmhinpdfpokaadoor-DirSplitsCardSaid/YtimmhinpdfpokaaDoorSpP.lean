/- Append of one element onto a row of the call's own. -/
import Derived.Test.YtimmhinpdfpokaaDoorChecked
import Derived.Test.YtimmhinpdfpokaaDoorMem
namespace Go.Proofs.YtimmhinpdfpokaaDoor.SP
open Go.RowKit Mem
set_option linter.unusedVariables false
set_option linter.unusedSimpArgs false

theorem own_mod {S : Nat → Prop} {w w' : World} {base : Nat} {e : TypeId} {size : Nat} {v : Value} {n : Nat} {xs : List Value} (h : w.ownsRow base e size v n xs) (hm : Mod S w w') (hs : ∀ k, base ≤ k → ¬ S k) : w'.ownsRow base e size v n xs := by
  refine ⟨h.1, ?_⟩
  rcases h.2 with h2 | ⟨g, cap, cur, hv, hg, hb, r⟩
  · exact .inl h2
  · exact .inr ⟨g, cap, cur, hv, hg, Blk.mod (show Blk w g e cur from hb) hm (hs g hg), r⟩
/-- The rows of e that lie at base or above. -/
def rowS (w : World) (base : Nat) (e : TypeId) : Nat → Prop := fun k => base ≤ k ∧ ∃ cs, Blk w k e cs

/-- 'append(v, u)', v a row of the call's own, one cell each. -/
theorem wpList_put1 {ops : Array Oper} {rest : List Oper} {o : Oper} {a : Act} {Q : Exit → Act → World → Prop} (hgd : o.guard = none) (s x : Operand) (t : TypeId)
    (ho : o.op = .call { callee := .builtin .append, args := #[s, x], argTypes := #[t, t] })
    (base : Nat) (e : TypeId) (i : TypeInfo) (z : Value) (bytes : Nat) (ht : Tryd.prog.underlying t = some (.slice e)) (hi : Tryd.prog.info? e = some i) (hz : i.zero = some z)
    (hsize : i.size = 1) (hby : i.bytes = bytes) (hzs : z.cells.size = 1) (w : World) (A : Option Addr) (c j : Nat) (xs : List Value) (u : Value) (hs : a.eval s = .slice A j c)
    (hx : a.eval x = .slice (some ⟨w.heap.size, 0, none⟩) 1 1) (hown : w.ownsRow base e 1 (.slice A j c) j xs) (hu : u.oneCell' = true)
    (h63 : j + 1 ≤ maxLen) (hbytes : (j + 1) * bytes ≤ 140737488355328) (hbase : base ≤ w.heap.size)
    (h : ∀ A' c' w', w'.ownsRow base e 1 (.slice A' (j + 1) c') (j + 1) (xs ++ [u]) → Mod (rowS w base e) w w' → wpList Tryd.prog ops Q rest (a.put o.dst (.slice A' (j + 1) c')) w') :
    wpList Tryd.prog ops Q (o :: rest) a (w.alloc (.cells #[u] e)) := by
  have hM : Mod no w (w.alloc (.cells #[u] e)) := (Mod.refl no w).alloc _
  have hb : Blk (w.alloc (.cells #[u] e)) w.heap.size e #[u] := Blk.new w _ _
  refine wpList_append _ hgd s x t ho base e i z 1 bytes ht hi hz hsize hby hzs (by decide) (.slice A j c) j xs hs (own_mod hown hM (fun _ _ c => c)) (some ⟨w.heap.size, 0, none⟩) 1 1 [u] hx ⟨rfl, fun _ => ⟨_, rfl, ?_⟩⟩ ?_ h63 hbytes (by rw [World.size_alloc]; omega) ?_
  · intro k v hk
    rcases k with _ | k
    · simp at hk; subst hk; rw [Addr.add_mid]; rw [hb.cell]; rfl
    · simp at hk
  · intro v hv; simp at hv; subst hv; exact hu
  · intro v' w' ho' hg hat hnn
    obtain ⟨A', c', rfl⟩ := own_form ho'
    refine h A' c' w' ho' ?_
    refine ((Mod.refl (rowS w base e) w).alloc (.cells #[u] e)).trans (Mod.of_grown (S := rowS w base e) hg ?_) (fun _ _ c => c)
    intro k hk e'
    rcases hown.2 with ⟨hv, _⟩ | ⟨g, cap, cur, hv, hbg, hgb, _⟩
    · rw [hv] at e'; simp [Value.ownBlock] at e'
    · rw [hv] at e'; simp [Value.ownBlock] at e'; subst e'; exact ⟨hbg, cur, hgb⟩
theorem tx_info : ∃ i, Tryd.prog.info? 9 = some i ∧ i.zero = some (.string ⟨#[]⟩) ∧ i.size = 1 ∧ i.bytes = 16 := by
  have h : (Tryd.prog.info? 9).map (fun i => (i.zero, i.size, i.bytes)) = some (some (.string ⟨#[]⟩), 1, 16) := by kernel_rfl
  obtain ⟨i, hi, h⟩ := Option.map_eq_some_iff.1 h
  simp only [Prod.mk.injEq] at h
  exact ⟨i, hi, h.1, h.2.1, h.2.2⟩
end Go.Proofs.YtimmhinpdfpokaaDoor.SP
