/- The law's spoilt: bytes that were answered are written over and grown. -/
import Derived.Test.YtpfkcejndjnbhaaWireA
namespace Go.Proofs.Ytpfkcejndjnbhaa.WD
open Go.RowKit Mem WM
set_option linter.unusedVariables false
set_option linter.unusedSimpArgs false

theorem rowS_trans {w w1 w2 : World} {base : Nat} {e : TypeId} (h : Mod (rowS w base e) w w1) (h' : Mod (rowS w1 base e) w1 w2) : Mod (rowS w base e) w w2 :=
  h.trans h' fun k hk c => by
    by_cases hs : rowS w base e k
    · exact hs
    · obtain ⟨c1, cs, c2⟩ := c
      exact ⟨c1, cs, by unfold Blk at c2 ⊢; rw [← h.block k hk hs]; exact c2⟩

theorem own_set {w : World} {base g n c : Nat} {e : TypeId} {xs : List Value} (h : w.ownsRow base e 1 (.slice (some ⟨g, 0, none⟩) n c) n xs) (k : Nat) (u : Value) :
    (w.setCell ⟨g, k, none⟩ u).ownsRow base e 1 (.slice (some ⟨g, 0, none⟩) n c) n (xs.set k u) ∧ Mod (rowS w base e) w (w.setCell ⟨g, k, none⟩ u) := by
  rcases h.2 with ⟨hv, _⟩ | ⟨g', cap, cur, hv, hbg, hb, h1, h2, h3, h4⟩
  · cases hv
  · injection hv with hv h5 h6
    injection hv with hv
    injection hv with hv
    subst hv h6
    refine ⟨⟨by rw [List.length_set]; exact h.1, .inr ⟨g, c, cur.setIfInBounds k u, rfl, hbg, Blk.put (show Blk w g e cur from hb) k u, h1, h2, by simpa using h3, ?_⟩⟩, (Mod.refl _ w).set (p := ⟨g, k, none⟩) (fun _ => ⟨hbg, cur, hb⟩) u⟩
    rw [Array.toList_setIfInBounds, List.take_set, h4]

/-- Rows of numbers. -/
def Nums (xs : List Value) : Prop := ∀ v ∈ xs, ∃ t : Int, v = .int .u8 t
theorem Nums.bvs (l : List UInt8) : Nums (Mem.bvs l) := by intro v hv; simp [Mem.bvs] at hv; obtain ⟨b, _, rfl⟩ := hv; exact ⟨_, rfl⟩
theorem Nums.set {xs : List Value} (h : Nums xs) (k : Nat) (t : Int) : Nums (xs.set k (.int .u8 t)) := by
  intro v hv
  rcases List.mem_or_eq_of_mem_set hv with h' | rfl
  · exact h v h'
  · exact ⟨t, rfl⟩

def SpInv (w : World) (base n : Nat) (A : Option Addr) (c : Nat) (i : Value) (wr : World) : Prop :=
  ∃ (k : Nat) (xs : List Value), k ≤ n ∧ i = .int .i64 (k : Int) ∧ wr.ownsRow base 5 1 (.slice A n c) n xs ∧ Nums xs ∧ Mod (rowS w base 5) w wr

def SpInv2 (w : World) (base n : Nat) (b i : Value) (wr : World) : Prop :=
  ∃ (k : Nat) (A : Option Addr) (c : Nat) (xs : List Value), k ≤ 16 ∧ i = .int .i64 (k : Int) ∧ b = .slice A (n + k) c ∧ wr.ownsRow base 5 1 (.slice A (n + k) c) (n + k) xs ∧ Mod (rowS w base 5) w wr

set_option maxRecDepth 100000 in
set_option maxHeartbeats 1000000 in
theorem spoilt_any {w : World} {base : Nat} {A : Option Addr} {c : Nat} {X : List UInt8} (hown : w.ownsRow base 5 1 (.slice A X.length c) X.length (bvs X)) (hX : X.length ≤ 70368744177664) (hbase : base ≤ w.heap.size) :
    Calls Try.prog 59 #[.slice A X.length c] w fun e w' => e = .returned (.string ⟨X.toArray⟩) ∧ Mod (rowS w base 5) w w' := by
  have hcv := conv_string (RdT.of_own hown) X.length c rfl
  have HO := Lib.hid hown
  obtain ⟨i0, hi, hz0, hz1, hz2⟩ := info_parts u8_info
  have HI0 := Lib.hid (And.intro hi (And.intro hz0 (And.intro hz1 hz2)))
  have HX := Lib.hid hX
  have HB := Lib.hid hbase
  obtain ⟨n, hn⟩ : ∃ n, n = X.length := ⟨_, rfl⟩
  have HN := Lib.hid hn
  rw [← hn] at hcv ⊢
  clear hi hz0 hz1 hz2 hown hX hbase hn
  go_enter Try.func59, Try.ntmps59
  go_wp2_with fail
  go_loopw [4] (SpInv w base n A c) (fun i _ => n - (intOf i).toNat)
  case atStart =>
    exact ⟨0, _, by omega, rfl, by rw [HN.out]; exact HO.out, Nums.bvs X, Mod.refl _ _⟩
  case round =>
    obtain ⟨k, xs, hk, rfl, hown, hnum, M⟩ := hrel
    by_cases hlt : k < n
    · obtain ⟨g, rfl⟩ : ∃ g, A = some ⟨g, 0, none⟩ := by
        rcases hown.2 with ⟨hv, h0⟩ | ⟨g', cap, cur, hv, _⟩
        · omega
        · injection hv with hv; exact ⟨_, hv⟩
      obtain ⟨cur, hb, hcur⟩ : ∃ cur, Blk wr g 5 cur ∧ cur[k]? = xs[k]? := by
        rcases hown.2 with ⟨hv, h0⟩ | ⟨g', cap, cur, hv, _, hb, _, _, _, h4⟩
        · cases hv
        · injection hv with hv
          injection hv with hv
          injection hv with hv
          subst hv
          refine ⟨cur, hb, ?_⟩
          rw [← h4, List.getElem?_take, if_pos (by omega)]; simp
      have hxl : xs.length = n := by have := hown.1; omega
      obtain ⟨t, ht⟩ : ∃ t : Int, xs[k]? = some (.int .u8 t) := by
        obtain ⟨t, ht⟩ := hnum (xs[k]'(by omega)) (List.getElem_mem _)
        exact ⟨t, by rw [List.getElem?_eq_getElem (by omega), ht]⟩
      have ck : wr.cell? ⟨g, k, none⟩ = some (.int .u8 t) := by rw [hb.cell, hcur, ht]
      have fk : wr.frozen? ⟨g, k, none⟩ = false := hb.free k
      have HO2 := Lib.hid hown
      clear hown hcur ht hxl HO hcv
      go_wp2_with fail
      have hw1 : wrap64 ((k : Int) + 1) = (k : Int) + 1 := IntWalk.wrap64_in _ (by have := HX.out; have := HN.out; omega)
      obtain ⟨o2, m2⟩ := own_set HO2.out k (.int .u8 (bits BinOp.xor IntKind.u8 t 255))
      refine ⟨⟨k + 1, _, by omega, by rw [hw1]; rfl, o2, hnum.set k _, rowS_trans M m2⟩, ?_⟩
      rw [hw1]; simp [intOf]; omega
    · obtain rfl : k = n := by omega
      have HO2 := Lib.hid hown
      clear hown HO hcv
      go_wp2_with fail
      go_loopw [0, 5] (SpInv2 w base k) (fun _ i _ => 16 - (intOf i).toNat)
      case atStart => exact ⟨0, A, c, xs, by omega, rfl, rfl, HO2.out, M⟩
      case round =>
        obtain ⟨k2, A2, c2, xs2, hk2, rfl, rfl, hown2, M2⟩ := hrel
        have HO3 := Lib.hid hown2
        clear hown2
        by_cases hlt2 : k2 < 16
        · go_wp2_with (at_builtin; refine wpList_put1 rfl (.tmp 26) (.tmp 27) 23 rfl base 5 i0 (.int .u8 0) 1 Try.underlying23 HI0.out.1 HI0.out.2.1 HI0.out.2.2.1 HI0.out.2.2.2 rfl _ A2 c2 (k + k2) xs2 (.int .u8 119) rfl rfl HO3.out rfl (by have := HX.out; have := HN.out; simp only [maxLen]; omega) (by have := HX.out; have := HN.out; omega) (by have := HB.out; have := M2.size; omega) ?_; rintro A3 c3 w3 hown3 hM3; have HO4 := Lib.hid hown3; clear hown3)
          go_roundw
          case rel => exact ⟨k2 + 1, A3, c3, _, by omega, by go_num, rfl, HO4.out, rowS_trans M2 hM3⟩
          case measure => simp [intOf]; omega
        · obtain rfl : k2 = 16 := by omega
          go_wp2_with fail
          go_ret
          exact ⟨rfl, M2⟩

end Go.Proofs.Ytpfkcejndjnbhaa.WD
