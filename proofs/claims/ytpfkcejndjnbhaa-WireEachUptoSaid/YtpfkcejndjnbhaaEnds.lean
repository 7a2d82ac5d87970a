/- The law's ends and stands: both takers stand alike. -/
import Derived.Test.YtpfkcejndjnbhaaRefS
namespace Go.Proofs.Ytpfkcejndjnbhaa.RD
open Go.RowKit Mem WM
open Go.Proofs.Ytpfkcejndjnbhaa.WD (RdT RdB u8_info conv_string own_lower own_mod conv_range fixA_lt raw_len key_size mod_sets raw_32 DecAt endV end_any at_any left_any)
set_option linter.unusedVariables false
set_option linter.unusedSimpArgs false

/-- What stopped one is a fault. -/
def Good : St → Prop
  | .live _ => True
  | .dead _ c => c ≠ 0

theorem varGo_good (bs : List UInt8) (p most : Nat) : ∀ f i v, Good (varGo bs p most f i v).1 := by
  intro f
  induction f with
  | zero => intro i v; trivial
  | succ f ih =>
    intro i v
    unfold varGo
    cases bs[p + i]? with
    | none => simp [Good]
    | some b =>
      simp only
      split
      · simp [Good]
      · split
        · split
          · simp [Good]
          · split <;> simp [Good]
        · exact ih _ _
theorem varA_good (bs : List UInt8) (s : St) (most : Nat) (h : Good s) : Good (varA bs s most).1 := by
  cases s with
  | dead a c => exact h
  | live p => exact varGo_good bs p most 10 0 0
theorem rawA_good (bs : List UInt8) (s : St) (n : Int) (h : Good s) : Good (rawA bs s n).1 := by
  cases s with
  | dead a c => exact h
  | live p =>
    simp only [rawA]
    split
    · trivial
    · split
      · trivial
      · simp [Good]
theorem textA_good (bs : List UInt8) (s : St) (n : Int) (h : Good s) : Good (textA bs s n).1 := by
  cases s with
  | dead a c => exact h
  | live p =>
    simp only [textA]
    cases e : varGo bs p n.toNat 10 0 0 with
    | mk s' k =>
      have hf := varGo_good bs p n.toNat 10 0 0
      rw [e] at hf
      cases s' with
      | dead a c => exact hf
      | live q => simp only; split <;> simp [Good]
theorem listA_good (bs : List UInt8) (s : St) (n : Int) (h : Good s) : Good (listA bs s n).1 := by
  cases s with
  | dead a c => exact h
  | live p =>
    simp only [listA]
    cases e : varGo bs p n.toNat 10 0 0 with
    | mk s' k =>
      have hf := varGo_good bs p n.toNat 10 0 0
      rw [e] at hf
      cases s' with
      | dead a c => exact hf
      | live q => simp only; split <;> simp [Good]
theorem takeA_good (bs : List UInt8) (s : St) (k : Int) (most : Nat) (n : Int) (h : Good s) : Good (takeA bs s k most n).1 := by
  unfold takeA keyA fixA
  repeat' split
  all_goals first | exact varA_good bs s most h | exact textA_good bs s n h | exact rawA_good bs s _ h | exact listA_good bs s n h | exact h

theorem fault_as (v : Value) (W : World) : (Instr.typeAssert (.iface 58 v) 61 58 true).run Try.prog W = .ok (.tuple #[v, .bool true]) W := by kernel_rfl

set_option maxRecDepth 100000 in
set_option maxHeartbeats 1000000 in
theorem ends_any {w : World} {g gb r rb : Nat} {bs : List UInt8} {s : St} (h : DecAt w g gb bs s) (hr : RAt w r rb bs s) (hs : Good s) :
    Calls Try.prog 57 #[.pointer (some ⟨g, 0, none⟩), .pointer (some ⟨r, 0, none⟩)] w fun e w' => e = .returned (.bool true) ∧ Mod no w w' := by
  have H := Lib.hid h
  have HR := Lib.hid hr
  have hc : ∀ a c, endA bs s = some (a, c) → c ≠ 0 := by
    intro a c e
    cases s with
    | live p =>
      simp only [endA] at e
      split at e
      · injection e with e; injection e with e1 e2; omega
      · cases e
    | dead a' c' =>
      simp only [endA] at e
      injection e with e; injection e with e1 e2
      subst e2; exact hs
  have HC := Lib.hid hc
  clear h hr hc
  obtain ⟨E, hE⟩ : ∃ E, E = endA bs s := ⟨_, rfl⟩
  have HE := Lib.hid hE
  have T1 := rend_any HR.out
  rw [← hE] at T1
  have T1 := Lib.hid T1
  have T2 := fun q => Lib.hid (end_any (H.out.mod (S := no) ((Mod.refl no w).drewN q) (fun c => c) (fun _ c => c) (fun _ _ _ c => c)))
  rw [← hE] at T2
  clear hE
  cases E with
  | none =>
    unfold rendV at T1
    unfold endV at T2
    go_enter Try.func57, Try.ntmps57
    go_wp2_with (first
      | (go_at_call 84; refine T1.out.mono ?_; rintro e w1 ⟨rfl, q, rfl⟩)
      | (go_at_call 24; refine (T2 _).out.mono ?_; rintro e w1 ⟨rfl, q2, rfl⟩))
    go_ret
    exact ⟨rfl, (Mod.refl no w).drewN _⟩
  | some ac =>
    obtain ⟨a, c⟩ := ac
    have hc0 := HC.out a c HE.out.symm
    have b0 : ((c : Int) == 0) = false := by simp; omega
    clear hc0
    unfold rendV at T1
    unfold endV at T2
    have has := fun W => fault_as (.agg #[.int .i64 (a : Int), .int .i64 (c : Int)]) W
    go_enter Try.func57, Try.ntmps57
    go_wp2_with (first
      | (go_at_call 84; refine T1.out.mono ?_; rintro e w1 ⟨rfl, q, rfl⟩)
      | (go_at_call 24; refine (T2 _).out.mono ?_; rintro e w1 ⟨rfl, q2, hw⟩; have M1 : Mod no w w1 := (by rw [hw]; exact ((Mod.refl no w).drewN _).drewN _); clear hw))
    go_ret
    exact ⟨rfl, M1.alloc _⟩

set_option maxRecDepth 100000 in
set_option maxHeartbeats 1000000 in
theorem stands_any {w : World} {g gb r rb : Nat} {bs : List UInt8} {s : St} (h : DecAt w g gb bs s) (hr : RAt w r rb bs s) (hs : Good s) :
    Calls Try.prog 22 #[.pointer (some ⟨g, 0, none⟩), .pointer (some ⟨r, 0, none⟩)] w fun e w' => e = .returned (.bool true) ∧ Mod no w w' := by
  have H := fun q => Lib.hid (h.mod (S := no) ((Mod.refl no w).drewN q) (fun c => c) (fun _ c => c) (fun _ _ _ c => c))
  have HR := fun q => Lib.hid (hr.mod (S := no) ((Mod.refl no w).drewN q) (fun c => c) (fun _ c => c))
  have H0 := Lib.hid h
  have HR0 := Lib.hid hr
  clear h hr
  go_enter Try.func22, Try.ntmps22
  go_wp2_with (first
    | (go_at_call 32; refine (at_any H0.out).mono ?_; rintro e w1 ⟨rfl, rfl⟩)
    | (go_at_call 55; refine (rplace_any HR0.out).mono ?_; rintro e w1 ⟨rfl, rfl⟩)
    | (go_at_call 30; refine (left_any H0.out).mono ?_; rintro e w1 ⟨rfl, q1, rfl⟩)
    | (go_at_call 56; refine (rleft_any (HR _).out).mono ?_; rintro e w1 ⟨rfl, q2, rfl⟩)
    | (go_at_call 57; refine (ends_any (H _).out (HR _).out hs).mono ?_; rintro e w1 ⟨rfl, M⟩))
  go_ret
  exact ⟨rfl, ((Mod.refl no w).drewN _).and_then M⟩

end Go.Proofs.Ytpfkcejndjnbhaa.RD
