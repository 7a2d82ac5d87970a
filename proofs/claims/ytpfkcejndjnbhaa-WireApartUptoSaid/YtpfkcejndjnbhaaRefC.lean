/- The document's bytes of a text. -/
import Derived.Test.YtpfkcejndjnbhaaRefB
namespace Go.Proofs.Ytpfkcejndjnbhaa.EN
open Go.RowKit Mem WM
open Go.Proofs.Ytpfkcejndjnbhaa.WD (RdT u8_info rowS wpList_put1 own_mod)
open Go.Proofs.Ytpfkcejndjnbhaa.OP (atA cell_lt)
set_option linter.unusedVariables false
set_option linter.unusedSimpArgs false

def TextInv (w : World) (pre l : List UInt8) (out i : Value) (wr : World) : Prop :=
  ∃ (j n : Nat), j ≤ l.length ∧ i = .int .i64 (j : Int) ∧ n = pre.length + j ∧ wr.ownsRow w.heap.size 5 1 out n (bvs (pre ++ l.take j)) ∧ Mod no w wr

set_option maxRecDepth 100000 in
set_option maxHeartbeats 1000000 in
theorem rtextb_any {w : World} (l : List UInt8) (hl : l.length ≤ 1048576) :
    Calls Try.prog 47 #[.string ⟨l.toArray⟩] w fun e w' => ∃ A' c', e = .returned (.slice A' (varBytes l.length ++ l).length c') ∧ w'.ownsRow w.heap.size 5 1 (.slice A' (varBytes l.length ++ l).length c') (varBytes l.length ++ l).length (bvs (varBytes l.length ++ l)) ∧ Mod no w w' := by
  have HL := Lib.hid hl
  have e1 : IntKind.u64.wrap (l.length : Int) = (l.length : Int) := IntWalk.u64_in _ (by omega)
  have e2 : ((ByteArray.mk l.toArray).size : Int) = (l.length : Int) := rfl
  have HVL := Lib.hid (varBytes_10 (v := l.length) (by omega))
  clear hl
  go_enter Try.func47, Try.ntmps47
  go_wp2_with fail
  refine (rvarb_any l.length (by have := HL.out; omega)).mono ?_
  rintro e w1 ⟨A1, c1, rfl, hown, M1⟩
  have HO := Lib.hid hown
  have HM := Lib.hid M1
  clear hown M1
  go_wp2_with fail
  go_loopw [3, 4] (TextInv w (varBytes l.length) l) (fun _ i _ => l.length - (intOf i).toNat)
  case atStart => exact ⟨0, _, Nat.zero_le _, rfl, rfl, by simpa using HO.out, HM.out⟩
  case round =>
    obtain ⟨j, n, hj, rfl, hn, hown, M⟩ := hrel
    obtain ⟨A2, c2, rfl⟩ := own_form hown
    have HO2 := Lib.hid hown
    have HM2 := Lib.hid M
    have HN := Lib.hid hn
    clear hown M hn
    by_cases hlt : j < l.length
    · have hlt' : (j : Int) < (l.length : Int) := by omega
      have hj64 : (j : Int) < 1048576 := by have := HL.out; omega
      have HH := Lib.hid (And.intro hlt hlt')
      go_wp2_with (at_builtin; refine wpList_own1 rfl (.tmp 15) (.tmp 19) rfl w.heap.size wr A2 c2 n _ rfl HO2.out (l[j]'HH.out.1) _ rfl rfl (by have := HL.out; have := HVL.out; have := HN.out; omega) HM2.out.size ?_; intro A3 c3 w3 ho3 hM3; have HO3 := Lib.hid ho3; have HM3 := Lib.hid hM3; clear ho3 hM3)
      go_roundw
      case rel =>
        refine ⟨j + 1, n + 1, hlt, by go_num, by have := HN.out; omega, ?_, mod_base HM2.out HM3.out⟩
        have := HO3.out
        rw [List.append_assoc] at this
        rw [List.take_add_one, List.getElem?_eq_getElem hlt]
        exact this
      case measure => simp [intOf]; omega
    · obtain rfl : j = l.length := by omega
      have hn : n = (varBytes l.length ++ l).length := by rw [HN.out]; simp
      have ho := HO2.out
      rw [List.take_of_length_le (Nat.le_refl _), hn] at ho
      have HO4 := Lib.hid ho
      clear ho
      subst hn
      go_wp2_with fail
      go_ret
      exact ⟨A2, c2, rfl, HO4.out, HM2.out⟩

end Go.Proofs.Ytpfkcejndjnbhaa.EN
