/- The law WireEach: how often one is asked, in plain Lean; and what opens an input's row. -/
import Derived.Test.YtpfkcejndjnbhaaTakesL
namespace Go.Proofs.Ytpfkcejndjnbhaa.EC
open Go.RowKit Mem WM
open Go.Proofs.Ytpfkcejndjnbhaa.WD (RdT RdB u8_info own_mod LiveAt DeadAt DecAt rowS conv_string)
open Go.Proofs.Ytpfkcejndjnbhaa.RD (RLive RAt Good)
set_option linter.unusedVariables false
set_option linter.unusedSimpArgs false

/-- How many bytes the k-th one takes. -/
def szA (Z : List UInt8) (k : Nat) : Nat := match Z[k]? with
  | some b => b.toNat % 4
  | none => 1
theorem szA_in {Z : List UInt8} {k : Nat} (h : k < Z.length) : szA Z k = Z[k].toNat % 4 := by unfold szA; rw [List.getElem?_eq_getElem h]
theorem szA_out {Z : List UInt8} {k : Nat} (h : ¬ k < Z.length) : szA Z k = 1 := by unfold szA; rw [List.getElem?_eq_none (by omega)]
theorem szA_lt (Z : List UInt8) (k : Nat) : szA Z k < 4 := by
  unfold szA
  split
  · omega
  · omega

/-- Behind k of them: the state, and what they answered. -/
def eachE (bs Z : List UInt8) (s0 : St) : Nat → St × List (List UInt8)
  | 0 => (s0, [])
  | k + 1 => ((rawA bs (eachE bs Z s0 k).1 (szA Z k : Int)).1, (eachE bs Z s0 k).2 ++ [(rawA bs (eachE bs Z s0 k).1 (szA Z k : Int)).2])

theorem eachE_len (bs Z : List UInt8) (s0 : St) (k : Nat) : (eachE bs Z s0 k).2.length = k := by
  induction k with
  | zero => rfl
  | succ k ih => simp [eachE, ih]
theorem eachE_fit {bs Z : List UInt8} {s0 : St} (h : Fit bs s0) (k : Nat) : Fit bs (eachE bs Z s0 k).1 := by
  induction k with
  | zero => exact h
  | succ k ih => exact rawA_fit bs _ _ ih
theorem eachE_good {bs Z : List UInt8} {s0 : St} (h : RD.Good s0) (k : Nat) : RD.Good (eachE bs Z s0 k).1 := by
  induction k with
  | zero => exact h
  | succ k ih => exact RD.rawA_good bs _ _ ih
/-- A live one has taken a byte each time, but where it was told not to. -/
theorem eachE_pos {bs Z : List UInt8} {s0 : St} : ∀ (k p : Nat), (eachE bs Z s0 k).1 = .live p → k ≤ p + Z.length := by
  intro k
  induction k with
  | zero => intro p h; omega
  | succ k ih =>
    intro p h
    simp only [eachE] at h
    cases e : (eachE bs Z s0 k).1 with
    | dead a c => rw [e] at h; simp [rawA] at h
    | live q =>
      have hq := ih q e
      rw [e] at h
      by_cases hk : k < Z.length
      · omega
      · rw [szA_out hk] at h
        simp only [rawA] at h
        rw [if_neg (by decide)] at h
        split at h
        · injection h with h
          have : (((1 : Nat) : Int)).toNat = 1 := rfl
          omega
        · cases h
theorem eachE_bound {bs Z : List UInt8} {s0 : St} (hf : Fit bs s0) {k p : Nat} (h : (eachE bs Z s0 k).1 = .live p) : k ≤ bs.length + Z.length := by
  have h1 := eachE_pos k p h
  have h2 := eachE_fit (Z := Z) hf k
  rw [h] at h2
  have h2 : p ≤ bs.length := h2
  omega
/-- It ends behind K of them: no more are wanted, or it is dead. -/
def Ends (bs Z : List UInt8) (s0 : St) (n K : Nat) : Prop := K ≤ n ∧ (K = n ∨ ∃ a c, (eachE bs Z s0 K).1 = .dead a c) ∧ ∀ j, j < K → ∃ p, (eachE bs Z s0 j).1 = .live p
theorem Ends.same {bs Z : List UInt8} {s0 : St} {n K K' : Nat} (h : Ends bs Z s0 n K) (h' : Ends bs Z s0 n K') : K = K' := by
  have h3 : ∀ {A B : Nat}, Ends bs Z s0 n A → Ends bs Z s0 n B → ¬ A < B := fun {A B} hA hB hlt => by
    obtain ⟨p, hp⟩ := hB.2.2 A hlt
    rcases hA.2.1 with e | ⟨a, c, e⟩
    · have := hB.1; omega
    · rw [e] at hp; cases hp
  have := h3 h h'
  have := h3 h' h
  omega
/-- What Each answers. -/
def eachR (bs Z : List UInt8) (s0 : St) (K : Nat) : List (List UInt8) := match (eachE bs Z s0 K).1 with
  | .live _ => (eachE bs Z s0 K).2
  | .dead _ _ => []
theorem eachR_live {bs Z : List UInt8} {s0 : St} {K p : Nat} (h : (eachE bs Z s0 K).1 = .live p) : eachR bs Z s0 K = (eachE bs Z s0 K).2 := by unfold eachR; rw [h]
theorem eachR_dead {bs Z : List UInt8} {s0 : St} {K a c : Nat} (h : (eachE bs Z s0 K).1 = .dead a c) : eachR bs Z s0 K = [] := by unfold eachR; rw [h]
/-- A text. -/
def tx (l : List UInt8) : Value := .string ⟨l.toArray⟩
theorem txs_snoc (L : List (List UInt8)) (l : List UInt8) : (L ++ [l]).map tx = L.map tx ++ [tx l] := by simp

theorem clone_r {w : World} {A : Option Addr} {c : Nat} {l : List UInt8} (hr : Rds w 1 A l.length (bvs l)) (hl : l.length ≤ 140737488355328) :
    Calls Try.prog 50 #[.slice A l.length c] w fun e w' => ∃ A' c', e = .returned (.slice A' l.length c') ∧ w'.ownsRow w.heap.size 5 1 (.slice A' l.length c') l.length (bvs l) ∧ Mod no w w' := by
  obtain ⟨i0, hi, hz0, hz1, hz2⟩ := info_parts u8_info
  rcases A with _ | ad
  · obtain rfl : l = [] := by
      by_cases e : l = []
      · exact e
      · obtain ⟨_, e, _⟩ := hr.2 (List.length_pos_iff.2 e)
        cases e
    have heq := fun (W : World) => Lib.run_eql_slice_nil (P := Try.prog) W 23 5 none 0 c 0 0 Try.underlying23
    simp only [Option.isNone_none] at heq
    clear hl hr
    go_enter Try.func50, Try.ntmps50
    go_wp2
    go_ret
    exact ⟨none, 0, rfl, World.ownsRow_nil _ _ _ _, Mod.refl _ _⟩
  · have heq := fun (W : World) => Lib.run_eql_slice_nil (P := Try.prog) W 23 5 (some ad) l.length c 0 0 Try.underlying23
    simp only [Option.isNone_some] at heq
    have HL := Lib.hid hl
    have HR := Lib.hid hr
    clear hl hr
    go_enter Try.func50, Try.ntmps50
    go_wp2_with (at_builtin; refine wpList_append _ rfl (.tmp 5) (.tmp 6) _ rfl w.heap.size 5 i0 (.int .u8 0) 1 1 Try.underlying23 hi hz0 hz1 hz2 rfl (by decide) (.slice (some ⟨w.heap.size, 0, none⟩) 0 0) 0 [] rfl (World.ownsRow_lit w #[] 0 (Nat.le_refl _) (by decide) rfl) (some ad) l.length c (bvs l) rfl (OP.rds_mod HR.out ((Mod.refl _ _).alloc _)) (bvs_one l) (by have := HL.out; simp only [maxLen]; omega) (by have := HL.out; omega) (by simp) ?_; intro v1 w1 hown hg hat hnn)
    go_ret
    simp only [Nat.zero_add, List.nil_append] at hown
    obtain ⟨A', c', rfl⟩ := own_form hown
    refine ⟨A', c', rfl, hown, ?_⟩
    refine ((Mod.refl no w).alloc (.cells #[] 5)).trans (Mod.of_grown (S := one w.heap.size) hg ?_) ?_
    · intro k _ e; simp [Value.ownBlock] at e; exact e.symm
    · intro k hk e; simp [one] at e; omega

theorem open_r {w : World} {A : Option Addr} {c : Nat} {l : List UInt8} (hr : Rds w 1 A l.length (bvs l)) (hl : l.length ≤ 140737488355328) :
    Calls Try.prog 15 #[.slice A l.length c] w fun e w' => ∃ g gb, e = .returned (.pointer (some ⟨g, 0, none⟩)) ∧ w.heap.size ≤ g ∧ w.heap.size ≤ gb ∧ LiveAt w' g gb l 0 ∧ Mod no w w' := by
  go_enter Try.func15, Try.ntmps15
  go_wp2_with fail
  refine (clone_r hr hl).mono ?_
  rintro e w1 ⟨A', c', rfl, hown, M⟩
  go_wp2_with fail
  go_ret
  have hcap := own_cap hown
  obtain ⟨gb, hgb, hrd⟩ := RdB.of_own (hown.alloc (.cells #[.slice A' l.length c', .int .i64 0, .pointer none] 76))
  exact ⟨w1.heap.size, gb, rfl, M.size, hgb, ⟨A', c', Blk.new _ _ _, hcap.1, hcap.2, hrd, Nat.zero_le _⟩, M.alloc _⟩


end Go.Proofs.Ytpfkcejndjnbhaa.EC
