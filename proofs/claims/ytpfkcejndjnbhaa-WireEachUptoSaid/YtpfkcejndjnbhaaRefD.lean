/- The document's taker (gleanerref01): the same plain functions. -/
import Derived.Test.YtpfkcejndjnbhaaWireZ
namespace Go.Proofs.Ytpfkcejndjnbhaa.RD
open Go.RowKit Mem WM
open Go.Proofs.Ytpfkcejndjnbhaa.WD (RdT RdB u8_info conv_string own_lower own_mod conv_range fixA_lt raw_len key_size mod_sets)
set_option linter.unusedVariables false
set_option linter.unusedSimpArgs false

def RLive (w : World) (g gb : Nat) (bs : List UInt8) (p : Nat) : Prop :=
  ∃ A c, Blk w g 52 #[.slice A bs.length c, .int .i64 (p : Int), .bool false, .int .i64 0, .int .i64 0] ∧ bs.length ≤ c ∧ c ≤ maxLen ∧ RdB w gb A bs ∧ p ≤ bs.length
def RDead (w : World) (g : Nat) (bs : List UInt8) (a e : Nat) : Prop :=
  ∃ (A : Option Addr) (c : Nat) (p : Int), Blk w g 52 #[.slice A bs.length c, .int .i64 p, .bool true, .int .i64 (a : Int), .int .i64 (e : Int)] ∧ a ≤ bs.length
def RAt (w : World) (g gb : Nat) (bs : List UInt8) : St → Prop
  | .live p => RLive w g gb bs p
  | .dead a e => RDead w g bs a e

section
variable {S : Nat → Prop} {w w' : World} {g gb : Nat} {bs : List UInt8} {p a e : Nat} {s : St}
theorem RLive.mod (h : RLive w g gb bs p) (hm : Mod S w w') (hg : ¬ S g) (hn : bs ≠ [] → ¬ S gb) : RLive w' g gb bs p := by
  obtain ⟨A, c, hb, h1, h2, h3, h4⟩ := h
  exact ⟨A, c, hb.mod hm hg, h1, h2, h3.mod hm hn, h4⟩
theorem RDead.mod (h : RDead w g bs a e) (hm : Mod S w w') (hg : ¬ S g) : RDead w' g bs a e := by
  obtain ⟨A, c, p, hb, h1⟩ := h
  exact ⟨A, c, p, hb.mod hm hg, h1⟩
theorem RAt.mod (h : RAt w g gb bs s) (hm : Mod S w w') (hg : ¬ S g) (hn : bs ≠ [] → ¬ S gb) : RAt w' g gb bs s := by
  cases s with
  | live p => exact RLive.mod h hm hg hn
  | dead a e => exact RDead.mod h hm hg
theorem RAt.fit (h : RAt w g gb bs s) : Fit bs s := by
  cases s with
  | live p => obtain ⟨A, c, _, _, _, _, h4⟩ := h; exact h4
  | dead a e => obtain ⟨A, c, p, _, h4⟩ := h; exact h4
theorem RAt.typ (h : RAt w g gb bs s) : ∃ cs, Blk w g 52 cs := by
  cases s with
  | live p => obtain ⟨A, c, hb, _⟩ := h; exact ⟨_, hb⟩
  | dead a e => obtain ⟨A, c, p, hb, _⟩ := h; exact ⟨_, hb⟩
end

/-- stop. -/
theorem rstop_any {w : World} {g : Nat} {A : Option Addr} {bs : List UInt8} {c : Nat} {p : Int} (a e : Nat) (h : Blk w g 52 #[.slice A bs.length c, .int .i64 p, .bool false, .int .i64 0, .int .i64 0]) (ha : a ≤ bs.length) :
    Calls Try.prog 54 #[.pointer (some ⟨g, 0, none⟩), .int .i64 (a : Int), .int .i64 (e : Int)] w fun r w' => r = .returned (.tuple #[]) ∧ RDead w' g bs a e ∧ Mod (one g) w w' := by
  have c2 := h.cell 2
  have c3 := h.cell 3
  have c4 := h.cell 4
  have f2 := h.free 2
  have f3 := h.free 3
  have f4 := h.free 4
  simp at c2 c3 c4
  go_enter Try.func54, Try.ntmps54
  go_wp2
  go_end0
  exact ⟨rfl, ⟨A, c, p, by simpa using ((h.put 2 (.bool true)).put 3 (.int .i64 (a : Int))).put 4 (.int .i64 (e : Int)), ha⟩,
    (((Mod.refl (one g) w).set (p := ⟨g, 2, none⟩) (fun _ => rfl) _).set (p := ⟨g, 3, none⟩) (fun _ => rfl) _).set (p := ⟨g, 4, none⟩) (fun _ => rfl) _⟩

set_option maxRecDepth 100000 in
/-- Open. -/
theorem ropen_any {w : World} {A : Option Addr} {c : Nat} {l : List UInt8} (hr : RdT w A l) (hl : l.length ≤ 140737488355328) :
    Calls Try.prog 16 #[.slice A l.length c] w fun e w' => ∃ g gb, e = .returned (.pointer (some ⟨g, 0, none⟩)) ∧ w.heap.size ≤ g ∧ w.heap.size ≤ gb ∧ RLive w' g gb l 0 ∧ Mod no w w' := by
  obtain ⟨i0, hi, hz0, hz1, hz2⟩ := info_parts u8_info
  have HR := Lib.hid hr
  have HL := Lib.hid hl
  clear hr hl
  go_enter Try.func16, Try.ntmps16
  go_wp2_with (
    at_builtin
    go_must (refine wpList_append _ rfl (.tmp 10) (.tmp 11) _ rfl w.heap.size 5 i0 (.int .u8 0) 1 1 Try.underlying23 hi hz0 hz1 hz2 rfl (by decide) (.slice none 0 0) 0 [] rfl ⟨rfl, .inl ⟨rfl, rfl⟩⟩ A l.length c (bvs l) rfl ((RdT.mod (S := no) HR.out ((Mod.refl _ _).alloc _) (fun _ _ _ c => c)).rds) (bvs_one l) (by have := HL.out; simp only [maxLen]; omega) (by have := HL.out; omega) (by simp) ?_)
    intro v1 w1 hown hg hat hnn
    have M : Mod no (w.alloc (.cells #[.slice none 0 0, .int .i64 0, .bool false, .int .i64 0, .int .i64 0] 52)) w1 := Mod.of_grown hg (fun k hk e => by simp [Value.ownBlock] at e)
    have hb := (Blk.new w 52 #[.slice none 0 0, .int .i64 0, .bool false, .int .i64 0, .int .i64 0]).mod M (fun c => c)
    simp only [Nat.zero_add, List.nil_append] at hown
    obtain ⟨A', c', rfl⟩ := own_form hown
    have HO := Lib.hid hown
    have HM := Lib.hid M
    have c0 := hb.cell 0
    have f0 := hb.free 0
    simp at c0
    clear hown hg hat hnn M)
  go_ret
  have hown := HO.out
  obtain ⟨gb, hgb, hR⟩ := RdB.of_own (own_lower hown (Nat.le_refl _))
  have hlc := own_cap hown
  refine ⟨w.heap.size, gb, rfl, Nat.le_refl _, hgb, ⟨A', c', by simpa using hb.put 0 _, hlc.1, hlc.2, ?_, Nat.zero_le _⟩, ?_⟩
  · exact hR.mod_other hb (by decide) ((Mod.refl (one w.heap.size) _).set (p := ⟨w.heap.size, 0, none⟩) (fun _ => rfl) _)
  · exact (((Mod.refl no w).alloc _).and_then HM.out).set (p := ⟨w.heap.size, 0, none⟩) (fun c => absurd c (Nat.lt_irrefl _)) _

end Go.Proofs.Ytpfkcejndjnbhaa.RD
