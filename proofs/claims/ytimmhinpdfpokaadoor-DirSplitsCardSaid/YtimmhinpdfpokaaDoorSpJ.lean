/- The program's IsName: its walk. -/
import Derived.Test.YtimmhinpdfpokaaDoorSpI
import Derived.Test.YtimmhinpdfpokaaDoorSpS
import Derived.Lib.OthersKept
import Derived.Shelf.Spec.BytesIndexFunc
namespace Go.Proofs.YtimmhinpdfpokaaDoor.SP
open Go.RowKit Mem
set_option linter.unusedVariables false
set_option linter.unusedSimpArgs false

/-- The library's tables lie as the initialisers laid them; the variable MaxLen holds an int. -/
def TW (w : World) : Prop := Lib.Utf8Tabs 0 1 w ∧ ∃ m : Int, w.cell? ⟨2, 0, none⟩ = some (.int .i64 m)
theorem TW.below {w w' : World} {B : Nat} (h : TW w) (hb : Below B w w') (h3 : 3 ≤ B) : TW w' := by
  have hr : ∀ (b o : Nat), b < 3 → w'.cell? ⟨b, o, none⟩ = w.cell? ⟨b, o, none⟩ := fun b o hb' => World.cell?_of_block (hb.block b (by omega))
  obtain ⟨⟨h1, h2⟩, m, hm⟩ := h
  exact ⟨⟨fun c hc => (hr 0 c (by omega)).trans (h1 c hc), fun i hi => ⟨(hr 1 _ (by omega)).trans (h2 i hi).1, (hr 1 _ (by omega)).trans (h2 i hi).2⟩⟩, m, (hr 2 0 (by omega)).trans hm⟩
theorem TW.size {w : World} (h : TW w) : 3 ≤ w.heap.size := by
  obtain ⟨_, m, hm⟩ := h
  exact World.block_lt_of_cell? _ _ hm
theorem isname_long {l : List UInt8} (h1 : ¬ l.length < 1) (h2 : ¬ 64 < l.length) (h3 : l ≠ [46]) (h4 : l ≠ [46, 46]) : named l = runsD l.length l := by
  rw [named_long h1 h2 h3 h4, runsD_eq _ _ (Nat.le_refl _)]
/-- What the loop holds. -/
def RI (w : World) (l : List UInt8) (b : Bool) (wr : World) : Prop := ∃ pos f : Nat, wr.heap[w.heap.size]? = some (.stringIter (sv l) pos) ∧ Below w.heap.size w wr ∧ runsD f (l.drop pos) = b ∧ l.length ≤ pos + f
theorem runs_step {l : List UInt8} {f pos d dw : Nat} {b : Bool} (hp : pos < l.length) (hd : Utf8.decode (sv l) pos = (d, dw)) (h : runsD (f + 1) (l.drop pos) = b) :
    b = if d = 47 ∨ d = 0 then false else if d = 65533 ∧ dw = 1 then false else runsD f (l.drop (pos + dw)) := by
  rw [← h]
  have e : Lib.decodeL (l.drop pos) = (d, dw) := by
    have := Lib.decodeL_drop (sv l) pos
    rw [← hd, ← this]
    simp [sv]
  conv => lhs; rw [runsD]
  rw [if_neg (by simp; omega), e]
  simp only [List.drop_drop]
theorem runs_end {l : List UInt8} {f pos : Nat} {b : Bool} (hp : ¬ pos < l.length) (h : runsD f (l.drop pos) = b) : b = true := by
  rw [List.drop_eq_nil_of_le (by omega)] at h
  rw [← h]
  cases f <;> rfl
theorem width_pos (l : List UInt8) (pos d dw : Nat) (h : pos < l.length) (hd : Utf8.decode (sv l) pos = (d, dw)) : 1 ≤ dw := by
  have h' : pos < (sv l).size := by rw [sv_size]; exact h
  by_cases ha : ((sv l)[pos]'h').toNat < 128
  · have := decode_ascii (sv l) pos h' ha
    rw [hd] at this
    have := congrArg Prod.snd this
    simp at this; omega
  · have := (decode_high (sv l) pos h' (by omega)).2
    rw [hd] at this; exact this
set_option maxRecDepth 100000 in
set_option maxHeartbeats 4000000 in
theorem isname_b {w : World} {l : List UInt8} {b : Bool} (hb : named l = b) (hl : l.length ≤ 1048576) (hT : TW w) : Calls Tryd.prog 7 #[.string (sv l)] w fun e w' => e = .returned (.bool b) ∧ Below w.heap.size w w' := by
  have HL := Lib.hid hl
  have HB := Lib.hid hb
  have HT := Lib.hid hT
  have hsz := sv_size l
  clear hl hb hT
  by_cases h0 : l = []
  · have HE := Lib.hid (named_short (l := l) (.inl (by rw [h0]; decide)))
    have g1 : (sv l).toList = [] := by rw [sv_list]; exact h0
    have g2 : ((sv l).toList == []) = true := by rw [g1]; rfl
    clear h0
    go_enter Tryd.func7, Tryd.ntmps7
    go_wp2_with fail
    go_ret
    exact ⟨by rw [← HB.out, HE.out]; rfl, Below.refl _ _⟩
  have h1 : ¬ l.length < 1 := by have := List.length_pos_iff.2 h0; omega
  have g1 : ¬ (sv l).toList = [] := by rw [sv_list]; exact h0
  have g1' : ((sv l).toList == []) = false := by rw [sv_list]; simpa using h0
  clear h0
  by_cases h2 : 64 < l.length
  · have HE := Lib.hid (named_short (l := l) (.inr (.inl h2)))
    have g2 : (64 : Int) < (l.length : Int) := by omega
    go_enter Tryd.func7, Tryd.ntmps7
    go_wp2_with fail
    go_ret
    exact ⟨by rw [← HB.out, HE.out]; rfl, Below.refl _ _⟩
  have g2 : ¬ (64 : Int) < (l.length : Int) := by omega
  by_cases h3 : l = [46]
  · have HE := Lib.hid (named_short (l := l) (.inr (.inr (.inl h3))))
    have g3 : (sv l).toList = [46] := by rw [sv_list]; exact h3
    clear h3
    go_enter Tryd.func7, Tryd.ntmps7
    go_wp2_with fail
    go_ret
    exact ⟨by rw [← HB.out, HE.out]; rfl, Below.refl _ _⟩
  have g3 : ¬ (sv l).toList = [46] := by rw [sv_list]; exact h3
  have g5 : ((sv l).toList == [46]) = false := by rw [sv_list]; simpa using h3
  by_cases h4 : l = [46, 46]
  · have HE := Lib.hid (named_short (l := l) (.inr (.inr (.inr h4))))
    have g4 : (sv l).toList = [46, 46] := by rw [sv_list]; exact h4
    clear h4
    go_enter Tryd.func7, Tryd.ntmps7
    go_wp2_with fail
    go_ret
    exact ⟨by rw [← HB.out, HE.out]; rfl, Below.refl _ _⟩
  have g4 : ¬ (sv l).toList = [46, 46] := by rw [sv_list]; exact h4
  have g6 : ((sv l).toList == [46, 46]) = false := by rw [sv_list]; simpa using h4
  have HN := Lib.hid ((isname_long h1 h2 h3 h4).symm.trans HB.out)
  clear h3 h4
  go_enter Tryd.func7, Tryd.ntmps7
  go_wp2_with fail
  go_loopw [] (fun (wr : World) => RI w l b wr) (fun wr => l.length - wr.iterPos w.heap.size)
  case atStart =>
    exact ⟨0, l.length, World.iter_heap w (sv l) 0, (Below.refl _ w).alloc (Nat.le_refl _) _, by rw [List.drop_zero]; exact HN.out, by omega⟩
  case round =>
    obtain ⟨pos, f, hit, hbw, hrun, hfu⟩ := hrel
    have hll := HL.out
    have hsz1 : w.heap.size < wr.heap.size := (Array.getElem?_eq_some_iff.1 hit).1
    by_cases hp : pos < l.length
    · obtain ⟨d, dw, hd⟩ : ∃ d dw, Utf8.decode (sv l) pos = (d, dw) := ⟨_, _, rfl⟩
      have hps : pos < (sv l).size := by rw [hsz]; exact hp
      have hnx : ∀ ty, (Instr.next (.pointer (some ⟨w.heap.size, 0, none⟩)) true ty).run Tryd.prog wr = .ok (.tuple #[.bool true, .int .i64 (pos : Int), .int .i32 (d : Int)]) (wr.iterAt w.heap.size (sv l) (pos + dw)) := by
        intro ty
        have := Lib.run_next_any_at (P := Tryd.prog) wr w.heap.size (sv l) pos ty hit hps
        rw [hd] at this; exact this
      have hwd := width_pos l pos d dw hp hd
      have hit2 := Lib.iterAt_heap wr w.heap.size (sv l) pos (pos + dw) hit
      have hbw2 := Lib.below_iterAt hbw (k := w.heap.size) (Nat.le_refl _) (sv l) (pos + dw)
      obtain ⟨f, rfl⟩ : ∃ f', f = f' + 1 := ⟨f - 1, by omega⟩
      have hst := runs_step hp hd hrun
      have HS := Lib.hid (And.intro hst (And.intro hit2 (And.intro hbw2 (And.intro hfu hd))))
      clear hst hit2 hbw2 hrun hfu hd
      by_cases h47 : d = 47
      · subst h47
        have HE := Lib.hid (show b = false by rw [HS.out.1]; simp)
        go_wp2_with fail
        go_ret
        exact ⟨by rw [HE.out]; rfl, HS.out.2.2.1⟩
      by_cases h0 : d = 0
      · subst h0
        have HE := Lib.hid (show b = false by rw [HS.out.1]; simp)
        go_wp2_with fail
        go_ret
        exact ⟨by rw [HE.out]; rfl, HS.out.2.2.1⟩
      have k1 : ¬ (d : Int) = 47 := by omega
      have k2 : ((d : Int) == 47) = false := by simpa using k1
      have k3 : ¬ (d : Int) = 0 := by omega
      have k4 : ((d : Int) == 0) = false := by simpa using k3
      by_cases hE : d = 65533
      · subst hE
        have HS2 := Lib.hid (HT.out.below HS.out.2.2.1 HT.out.size)
        have hdec : (Lib.decodeGo ((sv l).extract pos l.length)).2 = dw := by
          have := decodeGo_tail (sv l) pos hps
          rw [hsz] at this
          rw [this, HS.out.2.2.2.2]
        have hb1 : (pos : Int) ≤ (l.length : Int) := by omega
        have hb0 : (0 : Int) ≤ (pos : Int) := by omega
        by_cases hw : dw = 1
        · have HE := Lib.hid (show b = false by rw [HS.out.1]; simp [hw])
          subst hw
          go_wp2_with (first | (go_at_call 11; refine (utf8_DecodeRuneInString _ _ HS2.out.1).mono ?_; rintro e w3 ⟨rfl, hb3⟩; rw [hdec]))
          go_ret
          exact ⟨by rw [HE.out]; rfl, HS.out.2.2.1.trans (hb3.mono HS.out.2.2.1.size)⟩
        · have HE := Lib.hid (show b = runsD f (l.drop (pos + dw)) by rw [HS.out.1, if_neg (by omega), if_neg (by omega)])
          have k7 : ¬ (dw : Int) = 1 := by omega
          have k8 : ((dw : Int) == 1) = false := by simpa using k7
          clear h47 h0
          go_wp2_with (first | (go_at_call 11; refine (utf8_DecodeRuneInString _ _ HS2.out.1).mono ?_; rintro e w3 ⟨rfl, hb3⟩; rw [hdec]))
          have hit3 : w3.heap[w.heap.size]? = some (.stringIter (sv l) (pos + dw)) := (hb3.block _ (by rw [Lib.iterAt_size]; exact hsz1)).trans HS.out.2.1
          refine ⟨⟨pos + dw, f, hit3, HS.out.2.2.1.trans (hb3.mono HS.out.2.2.1.size), HE.out.symm, by have := HS.out.2.2.2.1; omega⟩, ?_⟩
          simp only [World.iterPos, hit3, hit]
          omega
      · have k5 : ¬ (d : Int) = 65533 := by omega
        have k6 : ((d : Int) == 65533) = false := by simpa using k5
        have HE := Lib.hid (show b = runsD f (l.drop (pos + dw)) by rw [HS.out.1, if_neg (by omega), if_neg (by omega)])
        clear h47 h0 hE
        go_wp2_with fail
        refine ⟨⟨pos + dw, f, HS.out.2.1, HS.out.2.2.1, HE.out.symm, by have := HS.out.2.2.2.1; omega⟩, ?_⟩
        simp only [World.iterPos, HS.out.2.1, hit]
        omega
    · have hps : ¬ pos < (sv l).size := by rw [hsz]; exact hp
      have hnx : ∀ ty, (Instr.next (.pointer (some ⟨w.heap.size, 0, none⟩)) true ty).run Tryd.prog wr = _ := fun ty => Lib.run_next_end_at wr w.heap.size (sv l) pos ty hit hps
      have HS := Lib.hid (runs_end hp hrun)
      clear hrun
      go_wp2_with fail
      go_ret
      exact ⟨by rw [HS.out]; rfl, hbw⟩
end Go.Proofs.YtimmhinpdfpokaaDoor.SP
