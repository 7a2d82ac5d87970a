/- Lemmas for DirSplits' walk: the two answers in one form, rows that are kept, appends told by their block. -/
import Derived.Test.YtimmhinpdfpokaaDoorSpE
import Derived.Deep.QuietTactic
import Derived.BigQuiet
namespace Go.Proofs.YtimmhinpdfpokaaDoor.SP
open Go.RowKit Mem
set_option linter.unusedVariables false
set_option linter.unusedSimpArgs false

theorem parts_good {l : List UInt8} (h : good l = true) : parts l = cuts l := by unfold parts; rw [if_pos h]
theorem parts_bad {l : List UInt8} (h : good l = false) : parts l = [] := by unfold parts; rw [h]; rfl
theorem code_good {l : List UInt8} (h : good l = true) : codeOf l = 0 := by unfold codeOf; rw [if_pos (.inr h)]
/-- Both answers: the names as a row of the call's own. -/
def Got (w0 w : World) (l : List UInt8) (A : Option Addr) (c : Nat) : Prop := w.ownsRow w0.heap.size 9 1 (.slice A (parts l).length c) (parts l).length (strs (parts l))
theorem own_of_blk {w : World} {base g n : Nat} {e : TypeId} {xs : List Value} (h : Blk w g e xs.toArray) (hg : base ≤ g) (hn : xs.length = n) (hm : n ≤ maxLen) : w.ownsRow base e 1 (.slice (some ⟨g, 0, none⟩) n n) n xs :=
  ⟨by rw [hn, Nat.mul_one], .inr ⟨g, n, xs.toArray, rfl, hg, h, Nat.le_refl _, hm, by simp [hn], by simp [← hn]⟩⟩
theorem parts_small (l : List UInt8) : (parts l).length ≤ 64 := by
  unfold parts
  split
  · rename_i h
    unfold good at h
    simp at h
    omega
  · simp
theorem DS.got {w w' : World} {l : List UInt8} {e : Ending} (h : DS w l e w') : Below w.heap.size w w' ∧ ∃ A, e = .returned (.tuple #[.slice A (parts l).length (parts l).length, .int .i64 (codeOf l)]) ∧ Got w w' l A (parts l).length := by
  refine ⟨h.1, ?_⟩
  rcases h.2 with ⟨hg, he, hb⟩ | ⟨hg, he⟩
  · have hs := parts_small l
    refine ⟨some ⟨w.heap.size, 0, none⟩, ?_, ?_⟩
    · rw [parts_good hg, code_good hg]; exact he
    · unfold Got
      rw [parts_good hg] at hs ⊢
      exact own_of_blk hb (Nat.le_refl _) (strs_length _) (by unfold maxLen; omega)
  · refine ⟨none, ?_, ?_⟩
    · rw [parts_bad hg]; exact he
    · unfold Got
      rw [parts_bad hg]; exact World.ownsRow_nil _ _ _ _
theorem RS.got {w w' : World} {l : List UInt8} {e : Ending} (h : RS w l e w') : Mod no w w' ∧ ∃ A c, e = .returned (.tuple #[.slice A (parts l).length c, .int .i64 (codeOf l)]) ∧ Got w w' l A c := by
  refine ⟨h.1, ?_⟩
  rcases h.2 with ⟨hg, A, c, he, hb⟩ | ⟨hg, he⟩
  · refine ⟨A, c, ?_, ?_⟩
    · rw [parts_good hg, code_good hg]; exact he
    · unfold Got
      rw [parts_good hg]; exact hb
  · refine ⟨none, 0, ?_, ?_⟩
    · rw [parts_bad hg]; exact he
    · unfold Got
      rw [parts_bad hg]; exact World.ownsRow_nil _ _ _ _
/-- A row is kept by what does not turn its block. -/
theorem own_kept {S : Nat → Prop} {w w' : World} {base : Nat} {e : TypeId} {size : Nat} {v : Value} {n : Nat} {xs : List Value} (h : w.ownsRow base e size v n xs) (hm : Mod S w w') (hs : ∀ k, v.ownBlock = some k → ¬ S k) : w'.ownsRow base e size v n xs := by
  refine ⟨h.1, ?_⟩
  rcases h.2 with h2 | ⟨g, cap, cur, hv, hg, hb, r⟩
  · exact .inl h2
  · exact .inr ⟨g, cap, cur, hv, hg, Blk.mod (show Blk w g e cur from hb) hm (hs g (by rw [hv]; rfl)), r⟩
theorem own_block {w : World} {base : Nat} {e : TypeId} {size : Nat} {v : Value} {n : Nat} {xs : List Value} (h : w.ownsRow base e size v n xs) : ∀ k, v.ownBlock = some k → base ≤ k ∧ k < w.heap.size := by
  intro k hk
  rcases h.2 with ⟨h2, _⟩ | ⟨g, cap, cur, hv, hg, hb, r⟩
  · rw [h2] at hk; cases hk
  · rw [hv] at hk; injection hk with hk; subst hk; exact ⟨hg, Blk.lt (show Blk w g e cur from hb)⟩
/-- A cell of a row. -/
theorem own_get {w : World} {base n c k : Nat} {e : TypeId} {A : Option Addr} {xs : List Value} {u : Value} (h : w.ownsRow base e 1 (.slice A n c) n xs) (hu : xs[k]? = some u) : ∃ g, A = some ⟨g, 0, none⟩ ∧ base ≤ g ∧ g < w.heap.size ∧ w.cell? ⟨g, k, none⟩ = some u ∧ w.frozen? ⟨g, k, none⟩ = false := by
  have hk : k < xs.length := by
    rcases Nat.lt_or_ge k xs.length with c | c
    · exact c
    · rw [List.getElem?_eq_none c] at hu; cases hu
  have h1 := h.1
  rcases h.2 with ⟨hv, h0⟩ | ⟨g, cap, cur, hv, hbg, hb, h2, h3, h4, h5⟩
  · omega
  · injection hv with hv h6 h7
    have hb' : Blk w g e cur := hb
    refine ⟨g, hv, hbg, hb'.lt, ?_, hb'.free k⟩
    rw [hb'.cell]
    have : cur.toList[k]? = some u := by
      rw [← hu, ← h5, List.getElem?_take, if_pos (by omega)]
    rw [← this]; simp
theorem own_set {w : World} {base g n c : Nat} {e : TypeId} {xs : List Value} (h : w.ownsRow base e 1 (.slice (some ⟨g, 0, none⟩) n c) n xs) (k : Nat) (u : Value) :
    (w.setCell ⟨g, k, none⟩ u).ownsRow base e 1 (.slice (some ⟨g, 0, none⟩) n c) n (xs.set k u) ∧ Mod (one g) w (w.setCell ⟨g, k, none⟩ u) := by
  rcases h.2 with ⟨hv, _⟩ | ⟨g', cap, cur, hv, hbg, hb, h1, h2, h3, h4⟩
  · cases hv
  · injection hv with hv h5 h6
    injection hv with hv
    injection hv with hv
    subst hv h6
    refine ⟨⟨by rw [List.length_set]; exact h.1, .inr ⟨g, c, cur.setIfInBounds k u, rfl, hbg, Blk.put (show Blk w g e cur from hb) k u, h1, h2, by simpa using h3, ?_⟩⟩, (Mod.refl (one g) w).set (p := ⟨g, k, none⟩) (fun _ => rfl) u⟩
    rw [Array.toList_setIfInBounds, List.take_set, h4]
/-- 'append(v, u)': which block turned, and where the answer lies. -/
theorem wpList_putg {ops : Array Oper} {rest : List Oper} {o : Oper} {a : Act} {Q : Exit → Act → World → Prop} (hgd : o.guard = none) (s x : Operand) (t : TypeId)
    (ho : o.op = .call { callee := .builtin .append, args := #[s, x], argTypes := #[t, t] })
    (base : Nat) (e : TypeId) (i : TypeInfo) (z : Value) (bytes : Nat) (ht : Tryd.prog.underlying t = some (.slice e)) (hi : Tryd.prog.info? e = some i) (hz : i.zero = some z)
    (hsize : i.size = 1) (hby : i.bytes = bytes) (hzs : z.cells.size = 1) (w : World) (A : Option Addr) (c j : Nat) (xs : List Value) (u : Value) (hs : a.eval s = .slice A j c)
    (hx : a.eval x = .slice (some ⟨w.heap.size, 0, none⟩) 1 1) (hown : w.ownsRow base e 1 (.slice A j c) j xs) (hu : u.oneCell' = true)
    (h63 : j + 1 ≤ maxLen) (hbytes : (j + 1) * bytes ≤ 140737488355328) (hbase : base ≤ w.heap.size)
    (h : ∀ A' c' w', w'.ownsRow base e 1 (.slice A' (j + 1) c') (j + 1) (xs ++ [u]) → Mod (fun k => (Value.slice A j c).ownBlock = some k) w w' → ((Value.slice A' (j + 1) c').ownBlock = (Value.slice A j c).ownBlock ∨ ∃ b, w.heap.size ≤ b ∧ (Value.slice A' (j + 1) c').ownBlock = some b) → wpList Tryd.prog ops Q rest (a.put o.dst (.slice A' (j + 1) c')) w') :
    wpList Tryd.prog ops Q (o :: rest) a (w.alloc (.cells #[u] e)) := by
  have hM : Mod no w (w.alloc (.cells #[u] e)) := (Mod.refl no w).alloc _
  have hb : Blk (w.alloc (.cells #[u] e)) w.heap.size e #[u] := Blk.new w _ _
  refine wpList_append _ hgd s x t ho base e i z 1 bytes ht hi hz hsize hby hzs (by decide) (.slice A j c) j xs hs (own_mod hown hM (fun _ _ c => c)) (some ⟨w.heap.size, 0, none⟩) 1 1 [u] hx ⟨rfl, fun _ => ⟨_, rfl, ?_⟩⟩ ?_ h63 hbytes (by rw [World.size_alloc]; omega) ?_
  · intro k v hk
    rcases k with _ | k
    · simp at hk; subst hk; rw [Addr.add_mid]; rw [hb.cell]; rfl
    · simp at hk
  · intro v hv; simp at hv; subst hv; exact hu
  · intro v' w' ho' hg hat hnn
    obtain ⟨A', c', rfl⟩ := own_form ho'
    refine h A' c' w' ho' ?_ ?_
    · exact ((Mod.refl (fun k => (Value.slice A j c).ownBlock = some k) w).alloc (.cells #[u] e)).trans (Mod.of_grown (S := fun k => (Value.slice A j c).ownBlock = some k) hg (fun k _ e' => e')) (fun _ _ c => c)
    · rcases hat with hat | hat
      · exact .inl hat
      · exact .inr ⟨_, by rw [World.size_alloc]; omega, hat⟩
end Go.Proofs.YtimmhinpdfpokaaDoor.SP
