/- Bits of a number in groups of seven. No program here. -/
import Derived.WalkKit
import Derived.Test.YtpfkcejndjnbhaaWireM
namespace Go.Proofs.Ytpfkcejndjnbhaa.WB
set_option maxRecDepth 100000

theorem andNot_lo : ∀ b : Fin 256, bits .andNot .u8 ((b.val : Nat) : Int) 128 = ((b.val % 128 : Nat) : Int) := by decide +kernel
theorem or_hi : ∀ b : Fin 256, bits .or .u8 ((b.val : Nat) : Int) 128 = ((b.val % 128 + 128 : Nat) : Int) := by decide +kernel

theorem pow7 (i : Nat) : (2 : Nat) ^ (7 * i) = 128 ^ i := by rw [Nat.pow_mul]

theorem or_step (n i b : Nat) (hn : n < 128 ^ i) (hb : b < 256) (hN : n + b % 128 * 128 ^ i < 18446744073709551616) :
    bits .or .u64 (n : Int) (IntKind.u64.wrap (IntKind.u64.wrap (bits .andNot .u8 (b : Int) 128) * 2 ^ (7 * i))) = ((n + b % 128 * 128 ^ i : Nat) : Int) := by
  rw [show bits .andNot .u8 (b : Int) 128 = ((b % 128 : Nat) : Int) from andNot_lo ⟨b, hb⟩]
  rw [IntWalk.u64_in ((b % 128 : Nat) : Int) (by omega)]
  have e : ((b % 128 : Nat) : Int) * 2 ^ (7 * i) = ((b % 128 * 128 ^ i : Nat) : Int) := by
    rw [← pow7]; norm_cast
  rw [e, IntWalk.u64_in _ (by omega), u64_or_nat _ _ (by omega) (by omega)]
  congr 1
  have h := Nat.two_pow_add_eq_or_of_lt (i := 7 * i) (b := n) (by rw [pow7]; exact hn) (b % 128)
  rw [pow7] at h
  rw [Nat.or_comm, Nat.mul_comm (b % 128), ← h, Nat.add_comm]

theorem pow8 (i : Nat) : (2 : Nat) ^ (8 * i) = 256 ^ i := by rw [Nat.pow_mul]

theorem le_lt (l : List UInt8) : WM.le l < 256 ^ l.length := by
  induction l with
  | nil => simp [WM.le]
  | cons b l ih => have := b.toNat_lt; simp only [WM.le, List.length_cons, Nat.pow_succ]; omega
theorem le_snoc (l : List UInt8) (b : UInt8) : WM.le (l ++ [b]) = WM.le l + b.toNat * 256 ^ l.length := by
  induction l with
  | nil => simp [WM.le]
  | cons c l ih =>
    simp only [List.cons_append, WM.le, List.length_cons, ih, Nat.pow_succ]
    rw [Nat.mul_add, Nat.mul_comm (256 ^ l.length) 256, ← Nat.mul_assoc, ← Nat.mul_assoc, Nat.mul_comm 256 b.toNat]
    omega
theorem le_take (l : List UInt8) (j : Nat) (h : j < l.length) : WM.le (l.take (j + 1)) = WM.le (l.take j) + l[j].toNat * 256 ^ j := by
  rw [List.take_succ_eq_append_getElem h, le_snoc, List.length_take, Nat.min_eq_left (by omega)]

theorem or8_step (n i b : Nat) (hn : n < 256 ^ i) (hb : b < 256) (hi : i < 8) :
    bits .or .u64 (n : Int) (IntKind.u64.wrap ((b : Int) * 2 ^ (8 * i))) = ((n + b * 256 ^ i : Nat) : Int) := by
  have h1 : b * 256 ^ i ≤ 255 * 256 ^ i := Nat.mul_le_mul_right _ (by omega)
  have h2 : (256 : Nat) ^ (i + 1) ≤ 256 ^ 8 := Nat.pow_le_pow_right (by decide) (by omega)
  rw [Nat.pow_succ] at h2
  have h3 : (256 : Nat) ^ 8 = 18446744073709551616 := by decide
  have e : (b : Int) * 2 ^ (8 * i) = ((b * 256 ^ i : Nat) : Int) := by
    rw [← pow8]; norm_cast
  rw [e, IntWalk.u64_in _ (by omega), u64_or_nat _ _ (by omega) (by omega)]
  congr 1
  have h := Nat.two_pow_add_eq_or_of_lt (i := 8 * i) (b := n) (by rw [pow8]; exact hn) b
  rw [pow8] at h
  rw [Nat.or_comm, Nat.mul_comm b, ← h, Nat.add_comm]

end Go.Proofs.Ytpfkcejndjnbhaa.WB
