/- The law WireOnly: what is taken from whatever bytes, added again, gives these bytes. -/
import Derived.Test.YtpfkcejndjnbhaaAgain
namespace Go.Proofs.Ytpfkcejndjnbhaa.ON
open Go.RowKit Mem WM
open Go.Proofs.Ytpfkcejndjnbhaa.WD (RdT RdB u8_info own_mod key_size takeV gotV LiveAt DecAt take_any end_any left_any endV key_len conv_string var_any open_any)
open Go.Proofs.Ytpfkcejndjnbhaa.OP (AddI AddAt allB Elems cell_lt atA)
open Go.Proofs.Ytpfkcejndjnbhaa.EN
open Go.Proofs.Ytpfkcejndjnbhaa.BK (conv_rds)
set_option linter.unusedVariables false
set_option linter.unusedSimpArgs false

theorem sgn_lt (v W : Nat) (hW : W ≤ 8) (hv : v < 256 ^ W) : sgn v W < 18446744073709551616 := by
  have h2 : (256 : Nat) ^ W ≤ 256 ^ 8 := Nat.pow_le_pow_right (by decide) hW
  have h3 : (256 : Nat) ^ 8 = 18446744073709551616 := by decide
  have h4 : (2 : Nat) ^ 64 = 18446744073709551616 := by decide
  unfold sgn
  split <;> omega
theorem width_le (k : Int) : WM.width k ≤ 8 := by unfold WM.width; (repeat' split) <;> omega

theorem takeA_lt (bs : List UInt8) (s : St) (kind : Int) (most : Nat) (n : Int) (hf : Fit bs s) : (takeA bs s kind most n).2.1 < 18446744073709551616 := by
  have hfix := WD.fixA_lt bs s (WM.width kind)
  have hw := width_le kind
  have h2 : (256 : Nat) ^ WM.width kind ≤ 256 ^ 8 := Nat.pow_le_pow_right (by decide) hw
  have h3 : (256 : Nat) ^ 8 = 18446744073709551616 := by decide
  unfold takeA
  split
  · cases s with
    | dead a c => simp [varA]
    | live p =>
      simp only [varA]
      cases hv : varGo bs p most 10 0 0 with
      | mk s1 v =>
        cases s1 with
        | dead a c => rw [WD.varGo_dead bs p _ _ _ _ _ _ _ hv]; simp
        | live q => exact (varGo_10 bs p most q v hf hv).2.2.2
  repeat' split
  all_goals first | (simp; done) | skip
  all_goals first
    | (simp only; omega)
    | (exact sgn_lt _ _ hw hfix)

theorem takeA_len (bs : List UInt8) (s : St) (kind : Int) (most : Nat) (n : Int) : (takeA bs s kind most n).2.2.length ≤ bs.length + 32 := by
  have ht : (textA bs s n).2.length ≤ bs.length := by
    cases s with
    | dead a c => simp [textA]
    | live p =>
      simp only [textA]
      split
      · simp
      · split
        · simp; omega
        · simp
  have hk := key_len bs s
  have hr := rawA_length bs s n
  have hl := WD.list_len2 bs s n
  unfold takeA
  repeat' split
  all_goals (try simp only [List.length_nil])
  all_goals omega

theorem clone_r {w : World} {A : Option Addr} {c : Nat} {l : List UInt8} (hr : Rds w 1 A l.length (bvs l)) (hl : l.length ≤ 140737488355328) :
    Calls Try.prog 50 #[.slice A l.length c] w fun e w' => ∃ A' c', e = .returned (.slice A' l.length c') ∧ w'.ownsRow w.heap.size 5 1 (.slice A' l.length c') l.length (bvs l) ∧ Mod no w w' := by
  obtain ⟨i0, hi, hz0, hz1, hz2⟩ := info_parts u8_info
  rcases A with _ | ad
  · obtain rfl : l = [] := by
      by_cases e : l = []
      · exact e
      · obtain ⟨_, e, _⟩ := hr.2 (List.length_pos_iff.2 e)
        cases e
    have heq := fun (W : World) => Lib.run_eql_slice_nil (P := Try.prog) W 23 5 none 0 c 0 0 Try.underlying23
    simp only [Option.isNone_none] at heq
    clear hl hr
    go_enter Try.func50, Try.ntmps50
    go_wp2
    go_ret
    exact ⟨none, 0, rfl, World.ownsRow_nil _ _ _ _, Mod.refl _ _⟩
  · have heq := fun (W : World) => Lib.run_eql_slice_nil (P := Try.prog) W 23 5 (some ad) l.length c 0 0 Try.underlying23
    simp only [Option.isNone_some] at heq
    have HL := Lib.hid hl
    have HR := Lib.hid hr
    clear hl hr
    go_enter Try.func50, Try.ntmps50
    go_wp2_with (at_builtin; refine wpList_append _ rfl (.tmp 5) (.tmp 6) _ rfl w.heap.size 5 i0 (.int .u8 0) 1 1 Try.underlying23 hi hz0 hz1 hz2 rfl (by decide) (.slice (some ⟨w.heap.size, 0, none⟩) 0 0) 0 [] rfl (World.ownsRow_lit w #[] 0 (Nat.le_refl _) (by decide) rfl) (some ad) l.length c (bvs l) rfl (OP.rds_mod HR.out ((Mod.refl _ _).alloc _)) (bvs_one l) (by have := HL.out; simp only [maxLen]; omega) (by have := HL.out; omega) (by simp) ?_; intro v1 w1 hown hg hat hnn)
    go_ret
    simp only [Nat.zero_add, List.nil_append] at hown
    obtain ⟨A', c', rfl⟩ := own_form hown
    refine ⟨A', c', rfl, hown, ?_⟩
    refine ((Mod.refl no w).alloc (.cells #[] 5)).trans (Mod.of_grown (S := one w.heap.size) hg ?_) ?_
    · intro k _ e; simp [Value.ownBlock] at e; exact e.symm
    · intro k hk e; simp [one] at e; omega

theorem open_r {w : World} {A : Option Addr} {c : Nat} {l : List UInt8} (hr : Rds w 1 A l.length (bvs l)) (hl : l.length ≤ 140737488355328) :
    Calls Try.prog 15 #[.slice A l.length c] w fun e w' => ∃ g gb, e = .returned (.pointer (some ⟨g, 0, none⟩)) ∧ w.heap.size ≤ g ∧ w.heap.size ≤ gb ∧ LiveAt w' g gb l 0 ∧ Mod no w w' := by
  go_enter Try.func15, Try.ntmps15
  go_wp2_with fail
  refine (clone_r hr hl).mono ?_
  rintro e w1 ⟨A', c', rfl, hown, M⟩
  go_wp2_with fail
  go_ret
  have hcap := own_cap hown
  obtain ⟨gb, hgb, hrd⟩ := RdB.of_own (hown.alloc (.cells #[.slice A' l.length c', .int .i64 0, .pointer none] 76))
  exact ⟨w1.heap.size, gb, rfl, M.size, hgb, ⟨A', c', Blk.new _ _ _, hcap.1, hcap.2, hrd, Nat.zero_le _⟩, M.alloc _⟩

end Go.Proofs.Ytpfkcejndjnbhaa.ON
