/- The document's bytes: of a number, of a number of fixed width, of a text. -/
import Derived.Test.YtpfkcejndjnbhaaEncP
namespace Go.Proofs.Ytpfkcejndjnbhaa.EN
open Go.RowKit Mem WM
open Go.Proofs.Ytpfkcejndjnbhaa.WD (RdT u8_info rowS wpList_put1 own_mod)
open Go.Proofs.Ytpfkcejndjnbhaa.OP (atA cell_lt)
set_option linter.unusedVariables false
set_option linter.unusedSimpArgs false

/-- 'append(row, u)' onto a row of one's own. -/
theorem wpList_own1 {ops : Array Oper} {rest : List Oper} {o : Oper} {a : Act} {Q : Exit → Act → World → Prop} (hgd : o.guard = none) (s x : Operand)
    (ho : o.op = .call { callee := .builtin .append, args := #[s, x], argTypes := #[23, 23] })
    (base : Nat) (w : World) (A : Option Addr) (c n : Nat) (bs : List UInt8) (hs : a.eval s = .slice A n c) (hown : w.ownsRow base 5 1 (.slice A n c) n (bvs bs)) (b : UInt8) (z : Int) (hz : z = (b.toNat : Int))
    (hx : a.eval x = .slice (some ⟨w.heap.size, 0, none⟩) 1 1) (hlen : n + 1 ≤ 140737488000000) (hbase : base ≤ w.heap.size)
    (h : ∀ A' c' w', w'.ownsRow base 5 1 (.slice A' (n + 1) c') (n + 1) (bvs (bs ++ [b])) → Mod (rowS w base 5) w w' → wpList Try.prog ops Q rest (a.put o.dst (.slice A' (n + 1) c')) w') :
    wpList Try.prog ops Q (o :: rest) a (w.alloc (.cells #[.int .u8 z] 5)) := by
  subst hz
  obtain ⟨i0, hi, hz0, hz1, hz2⟩ := info_parts u8_info
  refine wpList_put1 hgd s x 23 ho base 5 i0 (.int .u8 0) 1 Try.underlying23 hi hz0 hz1 hz2 rfl w A c n _ _ hs hx hown rfl (by simp only [maxLen]; omega) (by omega) hbase ?_
  intro A' c' w' ho' hM
  refine h A' c' w' ?_ hM
  rw [bvs_append]; exact ho'

theorem mod_base {w w1 w2 : World} {e : TypeId} (h : Mod no w w1) (h' : Mod (rowS w1 w.heap.size e) w1 w2) : Mod no w w2 := h.trans h' (fun k hk c => by have := c.1; omega)

def RowInv (w : World) (all : List UInt8) (f : Nat → List UInt8) (x out : Value) (wr : World) : Prop :=
  ∃ (u n : Nat) (bs1 : List UInt8), x = .int .u64 (u : Int) ∧ u < 18446744073709551616 ∧ wr.ownsRow w.heap.size 5 1 out n (bvs bs1) ∧ Mod no w wr ∧ bs1 ++ f u = all

theorem hi_128 (u : Nat) : IntKind.u8.wrap ((u : Int) % 128 + 128) = (((UInt8.ofNat (u % 128 + 128)).toNat : Nat) : Int) := by
  rw [UInt8.toNat_ofNat']
  simp [IntKind.wrap, IntKind.bits, IntKind.signed]

set_option maxRecDepth 100000 in
set_option maxHeartbeats 1000000 in
theorem rvarb_any {w : World} (v : Nat) (hv : v < 18446744073709551616) :
    Calls Try.prog 46 #[.int .u64 (v : Int)] w fun e w' => ∃ A' c', e = .returned (.slice A' (varBytes v).length c') ∧ w'.ownsRow w.heap.size 5 1 (.slice A' (varBytes v).length c') (varBytes v).length (bvs (varBytes v)) ∧ Mod no w w' := by
  have HV := Lib.hid hv
  obtain ⟨all, hall⟩ : ∃ all, all = varBytes v := ⟨_, rfl⟩
  rw [← hall]
  have HA := Lib.hid hall
  have HAL := Lib.hid (show all.length ≤ 10 by rw [hall]; exact varBytes_10 hv)
  clear hv hall
  go_enter Try.func46, Try.ntmps46
  go_wp2_with fail
  go_loopw [0, 3] (RowInv w all varBytes) (fun x _ _ => (intOf x).toNat)
  case atStart => exact ⟨v, 0, [], rfl, HV.out, ⟨rfl, .inl ⟨rfl, rfl⟩⟩, Mod.refl _ _, HA.out.symm⟩
  case round =>
    obtain ⟨u, n, bs1, rfl, hu, hown, M, hall⟩ := hrel
    obtain ⟨A1, c1, rfl⟩ := own_form hown
    have hn : bs1.length = n := by have := hown.1; simpa [bvs] using this
    have hlen : n ≤ 10 := by have := HAL.out; rw [← hall] at this; simp at this; omega
    have HO := Lib.hid hown
    have HM := Lib.hid M
    have HALL := Lib.hid hall
    have HN := Lib.hid hn
    clear hown M hall hn
    by_cases h128 : u < 128
    · have hz := low_8 u
      have HZ := Lib.hid hz
      go_wp2_with (at_builtin; refine wpList_own1 rfl (.tmp 15) (.tmp 18) rfl w.heap.size wr A1 c1 n bs1 rfl HO.out (UInt8.ofNat u) _ HZ.out rfl (by omega) HM.out.size ?_; intro A3 c3 w3 ho3 hM3; have HO3 := Lib.hid ho3; have HM3 := Lib.hid hM3; clear ho3 hM3)
      go_ret
      have he := HALL.out
      rw [varBytes_small h128] at he
      subst he
      have hl2 : (bs1 ++ [UInt8.ofNat u]).length = n + 1 := by simp [HN.out]
      rw [hl2]
      exact ⟨A3, c3, rfl, HO3.out, mod_base HM.out HM3.out⟩
    · have hz := hi_128 u
      have HZ := Lib.hid hz
      have hge : (128 : Int) ≤ (u : Int) := by omega
      have ew : IntKind.u64.wrap ((u : Int) % 128 + 128) = (u : Int) % 128 + 128 := IntWalk.u64_in _ (by omega)
      go_wp2_with (at_builtin; refine wpList_own1 rfl (.tmp 6) (.tmp 11) rfl w.heap.size wr A1 c1 n bs1 rfl HO.out (UInt8.ofNat (u % 128 + 128)) _ HZ.out rfl (by omega) HM.out.size ?_; intro A3 c3 w3 ho3 hM3; have HO3 := Lib.hid ho3; have HM3 := Lib.hid hM3; clear ho3 hM3)
      refine ⟨⟨u / 128, n + 1, bs1 ++ [UInt8.ofNat (u % 128 + 128)], rfl, by omega, HO3.out, mod_base HM.out HM3.out, ?_⟩, ?_⟩
      · rw [List.append_assoc, ← HALL.out, varBytes_big h128]; rfl
      · simp only [intOf]; omega

def FixInv (w : World) (all : List UInt8) (W : Nat) (x out i : Value) (wr : World) : Prop :=
  ∃ (j u n : Nat) (bs1 : List UInt8), j ≤ W ∧ i = .int .i64 (j : Int) ∧ x = .int .u64 (u : Int) ∧ u < 18446744073709551616 ∧ wr.ownsRow w.heap.size 5 1 out n (bvs bs1) ∧ Mod no w wr ∧ bs1 ++ fixBytes (W - j) u = all

set_option maxRecDepth 100000 in
set_option maxHeartbeats 1000000 in
theorem rfixb_any {w : World} (v W : Nat) (hv : v < 18446744073709551616) (hW : W ≤ 8) :
    Calls Try.prog 48 #[.int .u64 (v : Int), .int .i64 (W : Int)] w fun e w' => ∃ A' c', e = .returned (.slice A' W c') ∧ w'.ownsRow w.heap.size 5 1 (.slice A' W c') W (bvs (fixBytes W v)) ∧ Mod no w w' := by
  have HV := Lib.hid hv
  obtain ⟨all, hall⟩ : ∃ all, all = fixBytes W v := ⟨_, rfl⟩
  rw [← hall]
  have HA := Lib.hid hall
  have HAL := Lib.hid (show all.length = W by rw [hall]; exact fixBytes_length W v)
  clear hv hall
  go_enter Try.func48, Try.ntmps48
  go_wp2_with fail
  go_loopw [0, 5, 6] (FixInv w all W) (fun _ _ i _ => W - (intOf i).toNat)
  case atStart => exact ⟨0, v, 0, [], Nat.zero_le _, rfl, rfl, HV.out, ⟨rfl, .inl ⟨rfl, rfl⟩⟩, Mod.refl _ _, HA.out.symm⟩
  case round =>
    obtain ⟨j, u, n, bs1, hj, rfl, rfl, hu, hown, M, hall⟩ := hrel
    obtain ⟨A1, c1, rfl⟩ := own_form hown
    have hn : bs1.length = n := by have := hown.1; simpa [bvs] using this
    have hnj : n + (W - j) = W := by have := HAL.out; rw [← hall] at this; simp [fixBytes_length] at this; omega
    have HO := Lib.hid hown
    have HM := Lib.hid M
    have HALL := Lib.hid hall
    have HN := Lib.hid hn
    clear hown M hall hn
    by_cases hlt : j < W
    · have hz : (u : Int) % 256 = (((UInt8.ofNat (u % 256)).toNat : Nat) : Int) := by
        rw [UInt8.toNat_ofNat']
        omega
      have HZ := Lib.hid hz
      clear hz
      go_wp2_with (at_builtin; refine wpList_own1 rfl (.tmp 12) (.tmp 16) rfl w.heap.size wr A1 c1 n bs1 rfl HO.out (UInt8.ofNat (u % 256)) _ HZ.out rfl (by omega) HM.out.size ?_; intro A3 c3 w3 ho3 hM3; have HO3 := Lib.hid ho3; have HM3 := Lib.hid hM3; clear ho3 hM3)
      refine ⟨⟨j + 1, u / 256, n + 1, bs1 ++ [UInt8.ofNat (u % 256)], hlt, by go_num, rfl, by omega, HO3.out, mod_base HM.out HM3.out, ?_⟩, ?_⟩
      · rw [List.append_assoc, ← HALL.out, show W - j = (W - (j + 1)) + 1 by omega]; rfl
      · simp [intOf]; omega
    · obtain rfl : j = W := by omega
      have he := HALL.out
      simp only [Nat.sub_self, fixBytes, List.append_nil] at he
      obtain rfl : n = j := by omega
      have HE := Lib.hid he
      clear he hnj
      go_wp2_with fail
      go_ret
      exact ⟨A1, c1, rfl, by rw [← HE.out]; exact HO.out, HM.out⟩

end Go.Proofs.Ytpfkcejndjnbhaa.EN
