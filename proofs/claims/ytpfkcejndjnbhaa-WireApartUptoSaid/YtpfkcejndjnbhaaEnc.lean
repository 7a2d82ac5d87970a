/- What is added to: an Enc in memory, and the functions that make it its own and tell it. -/
import Derived.Test.YtpfkcejndjnbhaaTakesL
import Derived.Lib.AppendStr
import Derived.Lib.Builder
namespace Go.Proofs.Ytpfkcejndjnbhaa.EN
open Go.RowKit Mem WM
open Go.Proofs.Ytpfkcejndjnbhaa.WD (RdT RdB u8_info own_mod clone_any own_lower)
open Go.Proofs.Ytpfkcejndjnbhaa.OP (atA)
set_option linter.unusedVariables false
set_option linter.unusedSimpArgs false

/-- A row of bytes of one's own. -/
def RowA (w : World) (A : Option Addr) (c : Nat) (bs : List UInt8) : Prop := w.ownsRow 0 5 1 (.slice A bs.length c) bs.length (bvs bs)

theorem RowA.at_blk {w : World} {A : Option Addr} {c : Nat} {bs : List UInt8} (h : RowA w A c bs) {ad : Addr} (hA : A = some ad) : ∃ b cur, ad = ⟨b, 0, none⟩ ∧ Blk w b 5 cur := by
  rcases h.2 with ⟨hv, _⟩ | ⟨g', cap, cur, hv, hbg, hb', _⟩
  · injection hv with hv; rw [hv] at hA; cases hA
  · injection hv with hv
    rw [hv] at hA
    injection hA with hA
    exact ⟨g', cur, hA.symm, hb'⟩
theorem RowA.ne {w : World} {A : Option Addr} {c g : Nat} {bs : List UInt8} {t : TypeId} {cs : Array Value} (h : RowA w A c bs) (hg : Blk w g t cs) (ht : t ≠ 5) : ¬ atA A g := fun e => by
  obtain ⟨b, cur, e1, hb⟩ := h.at_blk e
  injection e1 with e1
  subst e1
  exact ht (hg.same hb).1
theorem RowA.mod {S : Nat → Prop} {w w' : World} {A : Option Addr} {c : Nat} {bs : List UInt8} (h : RowA w A c bs) (hm : Mod S w w') (hs : ∀ b, atA A b → ¬ S b) : RowA w' A c bs := by
  refine ⟨h.1, ?_⟩
  rcases h.2 with h2 | ⟨g, cap, cur, hv, hg, hb, r⟩
  · exact .inl h2
  · refine .inr ⟨g, cap, cur, hv, hg, Blk.mod (show Blk w g 5 cur from hb) hm (hs g ?_), r⟩
    injection hv
theorem RowA.rdt {w : World} {A : Option Addr} {c : Nat} {bs : List UInt8} (h : RowA w A c bs) : RdT w A bs := RdT.of_own h
theorem RowA.lt {w : World} {A : Option Addr} {c : Nat} {bs : List UInt8} (h : RowA w A c bs) : ∀ b, atA A b → b < w.heap.size := fun b hb => by
  obtain ⟨b', cur, e, hb'⟩ := h.at_blk hb
  injection e with e
  rw [e]; exact hb'.lt
theorem RowA.of {w : World} {base : Nat} {A : Option Addr} {c : Nat} {bs : List UInt8} (h : w.ownsRow base 5 1 (.slice A bs.length c) bs.length (bvs bs)) : RowA w A c bs ∧ ∀ b, atA A b → base ≤ b := by
  refine ⟨own_lower h (Nat.zero_le _), fun b hb => ?_⟩
  rcases h.2 with ⟨hv, _⟩ | ⟨g', cap, cur, hv, hbg, hb', _⟩
  · injection hv with hv; rw [hv] at hb; cases hb
  · injection hv with hv; rw [hv] at hb; injection hb with hb; injection hb with hb; omega

/-- The same row, or a new one. -/
def nextA (w : World) (A A' : Option Addr) : Prop := A' = A ∨ ∃ b, w.heap.size ≤ b ∧ A' = some ⟨b, 0, none⟩
def encS (g : Nat) (A : Option Addr) : Nat → Prop := fun k => k = g ∨ atA A k

theorem nextA.refl (w : World) (A : Option Addr) : nextA w A A := .inl rfl
theorem nextA.trans {w w1 : World} {A A1 A2 : Option Addr} (h : nextA w A A1) (h' : nextA w1 A1 A2) (hs : w.heap.size ≤ w1.heap.size) : nextA w A A2 := by
  rcases h' with rfl | ⟨b, hb, rfl⟩
  · exact h
  · exact .inr ⟨b, by omega, rfl⟩
theorem enc_trans {w w1 w2 : World} {g : Nat} {A A1 : Option Addr} (hA : nextA w A A1) (h : Mod (encS g A) w w1) (h' : Mod (encS g A1) w1 w2) : Mod (encS g A) w w2 :=
  h.trans h' fun k hk c => by
    rcases c with c | c
    · exact .inl c
    · rcases hA with rfl | ⟨b, hb, rfl⟩
      · exact .inr c
      · injection c with c; injection c with c; omega
theorem one_enc {w w' : World} {g : Nat} {A : Option Addr} (h : Mod (one g) w w') : Mod (encS g A) w w' := h.mono fun _ _ c => .inl c

/-- An Enc whose bytes are its own. -/
def EncAt (w : World) (g : Nat) (A : Option Addr) (bs : List UInt8) : Prop :=
  ∃ c, Blk w g 26 #[.slice A bs.length c, .pointer (some ⟨g, 0, none⟩)] ∧ RowA w A c bs
/-- An Enc whose bytes are another one's, or nobody's. -/
def EncN (w : World) (g : Nat) (bs : List UInt8) : Prop :=
  ∃ A0 c ow, Blk w g 26 #[.slice A0 bs.length c, ow] ∧ RdT w A0 bs ∧ (ow = .pointer none ∨ ∃ q cs, q ≠ g ∧ ow = .pointer (some ⟨q, 0, none⟩) ∧ Blk w q 26 cs)
/-- Either. -/
def EncR (w : World) (g : Nat) (A : Option Addr) (bs : List UInt8) : Prop := EncAt w g A bs ∨ (A = none ∧ EncN w g bs)

section
variable {S : Nat → Prop} {w w' : World} {g : Nat} {A : Option Addr} {bs : List UInt8}
theorem EncAt.mod (h : EncAt w g A bs) (hm : Mod S w w') (hg : ¬ S g) (hs : ∀ b, atA A b → ¬ S b) : EncAt w' g A bs := by
  obtain ⟨c, hb, hr⟩ := h
  exact ⟨c, hb.mod hm hg, hr.mod hm hs⟩
theorem EncAt.blk (h : EncAt w g A bs) : ∃ cs, Blk w g 26 cs := by obtain ⟨c, hb, hr⟩ := h; exact ⟨_, hb⟩
theorem EncR.blk (h : EncR w g A bs) : ∃ cs, Blk w g 26 cs := by
  rcases h with h | ⟨_, A0, c, ow, hb, _⟩
  · exact h.blk
  · exact ⟨_, hb⟩
theorem EncR.row (h : EncR w g A bs) : ∀ b, atA A b → ∃ cur, Blk w b 5 cur := fun b hb => by
  rcases h with ⟨c, _, hr⟩ | ⟨rfl, _⟩
  · obtain ⟨b', cur, e, hb'⟩ := hr.at_blk hb
    injection e with e
    exact ⟨cur, by rw [e]; exact hb'⟩
  · cases hb
theorem EncR.off (h : EncR w g A bs) : ∀ ad, A = some ad → ∃ b, ad = ⟨b, 0, none⟩ := fun ad hA => by
  rcases h with ⟨c, _, hr⟩ | ⟨rfl, _⟩
  · obtain ⟨b', cur, e, hb'⟩ := hr.at_blk hA
    exact ⟨b', e⟩
  · cases hA
end

theorem enc_info : ∃ j, Try.prog.info? 26 = some j ∧ j.size = 2 := by
  have h : (Try.prog.info? 26).map (·.size) = some 2 := by kernel_rfl
  cases e : Try.prog.info? 26 with
  | none => rw [e] at h; cases h
  | some j => rw [e] at h; injection h with h; exact ⟨j, rfl, h⟩

theorem ptr_same (g : Nat) (W : World) : (binOp .neq 24 (.pointer (some ⟨g, 0, none⟩)) (.pointer (some ⟨g, 0, none⟩))).run Try.prog W = .ok (.bool false) W := by
  obtain ⟨j, hj, _⟩ := enc_info
  exact Lib.run_neq_ptr_same W ⟨g, 0, none⟩ Try.underlying24 hj

theorem ptr_nil (g : Nat) (W : World) : (binOp .neq 24 (.pointer none) (.pointer (some ⟨g, 0, none⟩))).run Try.prog W = .ok (.bool true) W := by
  have h : ∀ d : Nat, (Op.equalIn (d + 1) 24 (.pointer none) (.pointer (some ⟨g, 0, none⟩))).run Try.prog W = .ok false W := fun d => by
    simp [Op.equalIn, run_underlying (P := Try.prog) Try.underlying24]
  simp only [binOp]
  simp [Op.equal, Op.maxDepth, h 9999]

theorem ptr_other {W : World} {q g : Nat} {cs cs' : Array Value} {t t' : TypeId} (hne : q ≠ g) (hq : Blk W q t cs) (hg : Blk W g t' cs') : (binOp .neq 24 (.pointer (some ⟨q, 0, none⟩)) (.pointer (some ⟨g, 0, none⟩))).run Try.prog W = .ok (.bool true) W := by
  obtain ⟨j, hj, hj2⟩ := enc_info
  have h : ∀ d : Nat, (Op.equalIn (d + 1) 24 (.pointer (some ⟨q, 0, none⟩)) (.pointer (some ⟨g, 0, none⟩))).run Try.prog W = .ok false W := fun d => by
    simp [Op.equalIn, run_underlying (P := Try.prog) Try.underlying24, sizeOf, typeInfo, hj, hj2, run_sameAddr_other W (a := ⟨q, 0, none⟩) (b := ⟨g, 0, none⟩) (by simp [hne]) hq hg]
  simp only [binOp]
  simp [Op.equal, Op.maxDepth, h 9999]

set_option maxRecDepth 100000 in
set_option maxHeartbeats 1000000 in
theorem ours_any {w : World} {g : Nat} {A : Option Addr} {bs : List UInt8} (h : EncR w g A bs) (hl : bs.length ≤ 140737488355328) :
    Calls Try.prog 75 #[.pointer (some ⟨g, 0, none⟩)] w fun e w' => e = .returned (.tuple #[]) ∧ ∃ A', nextA w A A' ∧ EncAt w' g A' bs ∧ Mod (one g) w w' := by
  rcases h with h | ⟨rfl, A0, c, ow, hb, hr, how⟩
  · have H := Lib.hid h
    obtain ⟨c, hb, hr⟩ := h
    have c0 := hb.cell 0
    have c1 := hb.cell 1
    simp at c0 c1
    have hs := ptr_same g
    clear hr
    go_enter Try.func75, Try.ntmps75
    go_wp2_with fail
    go_end0
    exact ⟨rfl, A, nextA.refl _ _, H.out, Mod.refl _ _⟩
  · have c0 := hb.cell 0
    have c1 := hb.cell 1
    have f0 := hb.free 0
    have f1 := hb.free 1
    simp at c0 c1
    have hne : (binOp .neq 24 ow (.pointer (some ⟨g, 0, none⟩))).run Try.prog w = .ok (.bool true) w := by
      rcases how with rfl | ⟨q, cs, hq, rfl, hqb⟩
      · exact ptr_nil g w
      · exact ptr_other hq hqb hb
    have HR := Lib.hid hr
    have HL := Lib.hid hl
    clear hr hl
    have how2 : ∃ p, ow = .pointer p := by
      rcases how with rfl | ⟨q, cs, hq, rfl, hqb⟩
      · exact ⟨_, rfl⟩
      · exact ⟨_, rfl⟩
    obtain ⟨p, rfl⟩ := how2
    clear how
    go_enter Try.func75, Try.ntmps75
    go_wp2_with (first
      | (go_at_call 50; refine (clone_any HR.out HL.out).mono ?_
         rintro e w1 ⟨A', c', rfl, hown, M1⟩
         have hb1 := hb.mod M1 (fun c => c)
         have d0 := hb1.cell 0
         have d1 := hb1.cell 1
         have e0 := hb1.free 0
         have e1 := hb1.free 1
         simp at d0 d1
         have HO := Lib.hid hown
         have HM1 := Lib.hid M1
         clear hown M1))
    go_end0
    obtain ⟨hrow, hge⟩ := RowA.of HO.out
    have hMg : Mod (one g) w1 ((w1.setCell ⟨g, 0, none⟩ (.slice A' bs.length c')).setCell ⟨g, 1, none⟩ (.pointer (some ⟨g, 0, none⟩))) := ((Mod.refl (one g) w1).set (p := ⟨g, 0, none⟩) (fun _ => rfl) _).set (p := ⟨g, 1, none⟩) (fun _ => rfl) _
    refine ⟨rfl, A', ?_, ⟨c', by simpa using (hb1.put 0 _).put 1 _, hrow.mod hMg (fun b hb' c => hrow.ne hb1 (by decide) (by rw [← show b = g from c]; exact hb'))⟩, (HM1.out.mono (S' := one g) (fun _ _ c => False.elim c)).and_then hMg⟩
    cases hA : A' with
    | none => exact .inl rfl
    | some ad =>
      obtain ⟨b, cur, rfl, _⟩ := hrow.at_blk hA
      exact .inr ⟨b, hge b hA, rfl⟩

end Go.Proofs.Ytpfkcejndjnbhaa.EN
