/- The law's sameKept; an order is told by its key. -/
import Derived.Test.YtoncjoelkenjnaaPlE
import Derived.Test.YtoncjoelkenjnaaPlM
namespace Go.Proofs.Ytoncjoelkenjnaa.PL
open Go.RowKit Mem Go.Proofs.Ytoncjoelkenjnaa.Days Go.Proofs.Ytoncjoelkenjnaa.SS
set_option linter.unusedVariables false
set_option linter.unusedSimpArgs false

theorem rr_asymm {K : Int → Int} {x y : Int} (h : Rr K x y) : ¬ Rr K y x := by
  intro h2
  rcases h with h | ⟨h, h'⟩ <;> rcases h2 with h2 | ⟨h2, h2'⟩ <;> omega
theorem sd_same {K : Int → Int} : ∀ {M M' : List Int}, M.Perm M' → Srt K M → Srt K M' → M = M' := by
  intro M
  induction M with
  | nil => intro M' hp _ _; exact (List.nil_perm.1 hp).symm
  | cons x M ih =>
    intro M' hp h h'
    cases M' with
    | nil => exact absurd hp.symm (by simp)
    | cons y M' =>
      have hx := List.pairwise_cons.1 h
      have hy := List.pairwise_cons.1 h'
      have hxy : x = y := by
        rcases List.mem_cons.1 (hp.mem_iff.1 (List.mem_cons_self (a := x) (l := M))) with c | c
        · exact c
        · rcases List.mem_cons.1 (hp.mem_iff.2 (List.mem_cons_self (a := y) (l := M'))) with c2 | c2
          · exact c2.symm
          · exact absurd (hx.1 y c2) (rr_asymm (hy.1 x c))
      subst hxy
      rw [ih ((List.perm_cons x).1 hp) hx.2 hy.2]
theorem sd_unique {K : Int → Int} {M M' L : List Int} (h : Sd K M L) (h' : Sd K M' L) : M = M' := sd_same (h.perm.trans h'.perm.symm) h.srt h'.srt
/-- A row of what is kept, wherever it lies. -/
def KV (w : World) (A : Option Addr) (n : Nat) (nm : Nat → ByteArray) (ws : Nat → Int) : Prop := 0 < n → ∃ g, A = some ⟨g, 0, none⟩ ∧ KB w g n nm ws
theorem KV.mod {S : Nat → Prop} {w w' : World} {n : Nat} {A : Option Addr} {nm : Nat → ByteArray} {ws : Nat → Int} (h : KV w A n nm ws) (m : Mod S w w') (hs : ∀ g, A = some ⟨g, 0, none⟩ → ¬ S g) : KV w' A n nm ws := fun hn => by
  obtain ⟨g, hA, hk⟩ := h hn
  exact ⟨g, hA, hk.mod m (hs g hA)⟩
def SkI (w : World) (n : Nat) (v : Value) (wr : World) : Prop := ∃ i q : Nat, i ≤ n ∧ v = .int .i64 (i : Int) ∧ wr = w.drewN q
set_option maxRecDepth 100000 in
set_option maxHeartbeats 2000000 in
theorem sameKept_any {w : World} {A B : Option Addr} {n c c' : Nat} {nm : Nat → ByteArray} {ws : Nat → Int} (hA : KV w A n nm ws) (hB : KV w B n nm ws) (hn : n ≤ 1048600) :
    Calls Try.prog 22 #[.slice A n c, .slice B n c'] w fun e w' => e = .returned (.bool true) ∧ Mod no w w' := by
  have HA := Lib.hid hA
  have HB := Lib.hid hB
  have HN := Lib.hid hn
  have e0 : ((n : Int) != (n : Int)) = false := by simp
  clear hA hB hn
  go_enter Try.func22, Try.ntmps22
  go_wp2_with fail
  go_loopw [5] (SkI w n) (fun v _ => n - (intOf v).toNat)
  case atStart => exact ⟨0, 0, Nat.zero_le _, rfl, rfl⟩
  case round =>
    obtain ⟨i, q, hi, rfl, hw⟩ := hrel
    have hM : Mod no w wr := by rw [hw]; exact (Mod.refl no w).drewN q
    have HW := Lib.hid (And.intro hw hM)
    by_cases hlt : i < n
    · obtain ⟨g, rfl, ka⟩ := HA.out (by omega)
      obtain ⟨g', rfl, kb⟩ := HB.out (by omega)
      have a0 := (ka.mod hM (fun c => c)).name hlt
      have a1 := (ka.mod hM (fun c => c)).why hlt
      have b0 := (kb.mod hM (fun c => c)).name hlt
      have b1 := (kb.mod hM (fun c => c)).why hlt
      have g1 : (i : Int) < (n : Int) := by omega
      have g2 : ¬ (i : Int) < 0 := by omega
      have HK := Lib.hid hlt
      have w1 : wrap64 ((i : Int) + 1) = (i : Int) + 1 := IntWalk.wrap64_in _ (by have := HN.out; omega)
      clear hw hM hi ka kb hlt
      go_wp2_with fail
      go_quiet (fail)
      go_wp2_with fail
      go_roundw
      case rel => exact ⟨i + 1, q + nq, HK.out, by go_num, by rw [HW.out.1, World.drewN_drewN]⟩
      case measure =>
        have := HK.out
        try rw [w1]
        clear w1
        show n - ((i : Int) + 1).toNat < n - ((i : Int)).toNat
        omega
    · obtain rfl : i = n := by omega
      have g1 : ¬ (i : Int) < (i : Int) := by omega
      clear hw hM hi hlt
      go_wp2_with fail
      go_ret
      exact ⟨rfl, HW.out.2⟩
end Go.Proofs.Ytoncjoelkenjnaa.PL
