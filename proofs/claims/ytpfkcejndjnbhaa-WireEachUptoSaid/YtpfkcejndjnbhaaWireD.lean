/- The program's taker (wire.Dec), a function at a time. -/
import Derived.Test.YtpfkcejndjnbhaaChecked
import Derived.Test.YtpfkcejndjnbhaaMem
import Derived.Test.YtpfkcejndjnbhaaWireM
namespace Go.Proofs.Ytpfkcejndjnbhaa.WD
open Go.RowKit Mem WM
set_option linter.unusedVariables false
set_option linter.unusedSimpArgs false

/-- The slice at A reads as the bytes l; its block is a row of bytes. -/
def RdT (w : World) (A : Option Addr) (l : List UInt8) : Prop :=
  l ≠ [] → ∃ g o cs, A = some ⟨g, o, none⟩ ∧ Blk w g 5 cs ∧ ∀ i, i < l.length → cs[o + i]? = (bvs l)[i]?

theorem RdT.nil_ (w : World) (A : Option Addr) : RdT w A [] := fun h => absurd rfl h
theorem RdT.mod {S : Nat → Prop} {w w' : World} {A : Option Addr} {l : List UInt8} (h : RdT w A l) (hm : Mod S w w') (hn : ∀ g cs, Blk w g 5 cs → ¬ S g) : RdT w' A l := fun hl => by
  obtain ⟨g, o, cs, e, hb, hc⟩ := h hl
  exact ⟨g, o, cs, e, hb.mod hm (hn g cs hb), hc⟩
theorem RdT.rds {w : World} {A : Option Addr} {l : List UInt8} (h : RdT w A l) : Rds w 1 A l.length (bvs l) := by
  refine ⟨by simp [bvs], fun hp => ?_⟩
  obtain ⟨g, o, cs, e, hb, hc⟩ := h (List.length_pos_iff.1 hp)
  refine ⟨_, e, fun j u hu => ?_⟩
  rw [add_plain, hb.cell]
  have hj : j < l.length := by
    have := (List.getElem?_eq_some_iff.1 hu).1
    simpa [bvs] using this
  rw [hc j hj]; exact hu
theorem RdT.of_own {w : World} {base : Nat} {A : Option Addr} {c : Nat} {l : List UInt8} (h : w.ownsRow base 5 1 (.slice A l.length c) l.length (bvs l)) : RdT w A l := fun hl => by
  rcases h.2 with ⟨e, h0⟩ | ⟨g, cap, cur, e, hb, hg, h1, h2, h3, h4⟩
  · exact absurd (List.eq_nil_of_length_eq_zero h0) hl
  · injection e with e1 e2 e3
    refine ⟨g, 0, cur, e1, hg, fun i hi => ?_⟩
    rw [← h4, List.getElem?_take, if_pos (by omega)]
    simp
/-- The same, the block named. -/
def RdB (w : World) (gb : Nat) (A : Option Addr) (l : List UInt8) : Prop :=
  l ≠ [] → ∃ o cs, A = some ⟨gb, o, none⟩ ∧ Blk w gb 5 cs ∧ ∀ i, i < l.length → cs[o + i]? = (bvs l)[i]?
theorem RdB.t {w : World} {gb : Nat} {A : Option Addr} {l : List UInt8} (h : RdB w gb A l) : RdT w A l := fun hl => by
  obtain ⟨o, cs, e, hb, hc⟩ := h hl
  exact ⟨gb, o, cs, e, hb, hc⟩
theorem RdB.mod {S : Nat → Prop} {w w' : World} {gb : Nat} {A : Option Addr} {l : List UInt8} (h : RdB w gb A l) (hm : Mod S w w') (hn : l ≠ [] → ¬ S gb) : RdB w' gb A l := fun hl => by
  obtain ⟨o, cs, e, hb, hc⟩ := h hl
  exact ⟨o, cs, e, hb.mod hm (hn hl), hc⟩
theorem RdB.mod_other {w w' : World} {g gb : Nat} {t : TypeId} {cs : Array Value} {A : Option Addr} {l : List UInt8} (h : RdB w gb A l) (hg : Blk w g t cs) (ht : t ≠ 5) (hm : Mod (one g) w w') : RdB w' gb A l := fun hl => by
  obtain ⟨o, cs', e, hb, hc⟩ := h hl
  exact ⟨o, cs', e, hb.mod hm (fun c => hb.ne hg (Ne.symm ht) c), hc⟩
theorem RdB.cut {w : World} {gb : Nat} {A : Option Addr} {l : List UInt8} {c : Nat} (h : RdB w gb A l) (lo n : Nat) (hlo : lo + n ≤ l.length) (hc : l.length ≤ c) :
    RdB w gb (if c = lo then A else A.map (·.add lo)) ((l.drop lo).take n) := fun hl => by
  have hn : 0 < n := by
    rcases Nat.eq_zero_or_pos n with e | e
    · subst e; simp at hl
    · exact e
  have hlz : l ≠ [] := by rintro rfl; simp at hl
  obtain ⟨o, cs, rfl, hb, hcs⟩ := h hlz
  rw [if_neg (by omega)]
  refine ⟨o + lo, cs, by simp [add_plain], hb, fun i hi => ?_⟩
  have hi' : i < n := by simp at hi; omega
  rw [Nat.add_assoc, hcs (lo + i) (by omega)]
  simp [bvs, List.getElem?_take, hi', List.getElem?_drop]
theorem RdT.b {w : World} {A : Option Addr} {l : List UInt8} (h : RdT w A l) : ∃ gb, RdB w gb A l := by
  by_cases hl : l = []
  · exact ⟨0, fun c => absurd hl c⟩
  · obtain ⟨gb, o, cs, e, hb, hc⟩ := h hl
    exact ⟨gb, fun _ => ⟨o, cs, e, hb, hc⟩⟩
theorem RdB.of_own {w : World} {base : Nat} {A : Option Addr} {c : Nat} {l : List UInt8} (h : w.ownsRow base 5 1 (.slice A l.length c) l.length (bvs l)) : ∃ gb, base ≤ gb ∧ RdB w gb A l := by
  by_cases hl : l = []
  · exact ⟨base, Nat.le_refl _, fun c => absurd hl c⟩
  · rcases h.2 with ⟨e, h0⟩ | ⟨g, cap, cur, e, hb, hg, h1, h2, h3, h4⟩
    · exact absurd (List.eq_nil_of_length_eq_zero h0) hl
    · injection e with e1 e2 e3
      refine ⟨g, hb, fun _ => ⟨0, cur, e1, hg, fun i hi => ?_⟩⟩
      rw [← h4, List.getElem?_take, if_pos (by omega)]
      simp

def LiveAt (w : World) (g gb : Nat) (bs : List UInt8) (p : Nat) : Prop :=
  ∃ A c, Blk w g 76 #[.slice A bs.length c, .int .i64 (p : Int), .pointer none] ∧ bs.length ≤ c ∧ c ≤ maxLen ∧ RdB w gb A bs ∧ p ≤ bs.length
def DeadAt (w : World) (g : Nat) (bs : List UInt8) (a e : Nat) : Prop :=
  ∃ (A : Option Addr) (c : Nat) (p : Int) (k : Nat), Blk w g 76 #[.slice A bs.length c, .int .i64 p, .pointer (some ⟨k, 0, none⟩)] ∧ Blk w k 58 #[.int .i64 (a : Int), .int .i64 (e : Int)] ∧ a ≤ bs.length
/-- A taker at block g over bs. -/
def DecAt (w : World) (g gb : Nat) (bs : List UInt8) : St → Prop
  | .live p => LiveAt w g gb bs p
  | .dead a e => DeadAt w g bs a e

section
variable {S : Nat → Prop} {w w' : World} {g gb : Nat} {bs : List UInt8} {p a e : Nat} {s : St}
theorem LiveAt.mod (h : LiveAt w g gb bs p) (hm : Mod S w w') (hg : ¬ S g) (hn : bs ≠ [] → ¬ S gb) : LiveAt w' g gb bs p := by
  obtain ⟨A, c, hb, h1, h2, h3, h4⟩ := h
  exact ⟨A, c, hb.mod hm hg, h1, h2, h3.mod hm hn, h4⟩
theorem DeadAt.mod (h : DeadAt w g bs a e) (hm : Mod S w w') (hg : ¬ S g) (hn : ∀ k cs, Blk w k 58 cs → ¬ S k) : DeadAt w' g bs a e := by
  obtain ⟨A, c, p, k, hb, hk, h1⟩ := h
  exact ⟨A, c, p, k, hb.mod hm hg, hk.mod hm (hn k _ hk), h1⟩
theorem DecAt.mod (h : DecAt w g gb bs s) (hm : Mod S w w') (hg : ¬ S g) (hn : bs ≠ [] → ¬ S gb) (hf : ∀ k cs, Blk w k 58 cs → ¬ S k) : DecAt w' g gb bs s := by
  cases s with
  | live p => exact LiveAt.mod h hm hg hn
  | dead a e => exact DeadAt.mod h hm hg hf
theorem DecAt.fit (h : DecAt w g gb bs s) : Fit bs s := by
  cases s with
  | live p => obtain ⟨A, c, _, _, _, _, h4⟩ := h; exact h4
  | dead a e => obtain ⟨A, c, p, k, _, _, h4⟩ := h; exact h4
theorem DecAt.typ (h : DecAt w g gb bs s) : ∃ cs, Blk w g 76 cs := by
  cases s with
  | live p => obtain ⟨A, c, hb, _⟩ := h; exact ⟨_, hb⟩
  | dead a e => obtain ⟨A, c, p, k, hb, _⟩ := h; exact ⟨_, hb⟩
end

theorem live_put {w : World} {g gb : Nat} {bs : List UInt8} {A : Option Addr} {c : Nat} {p : Int} {p' : Nat} (hb : Blk w g 76 #[.slice A bs.length c, .int .i64 p, .pointer none]) (h1 : bs.length ≤ c) (h2 : c ≤ maxLen)
    (h3 : RdB w gb A bs) (hp : p' ≤ bs.length) (n : Nat) {v : Int} (hv : v = (p' : Int)) :
    LiveAt ((w.drewN n).setCell ⟨g, 1, none⟩ (.int .i64 v)) g gb bs p' ∧ Mod (one g) w ((w.drewN n).setCell ⟨g, 1, none⟩ (.int .i64 v)) := by
  subst hv
  have M : Mod (one g) w ((w.drewN n).setCell ⟨g, 1, none⟩ (.int .i64 (p' : Int))) := ((Mod.refl (one g) w).drewN n).set (p := ⟨g, 1, none⟩) (fun _ => rfl) _
  exact ⟨⟨A, c, by simpa using (hb.drewN n).put 1 (.int .i64 (p' : Int)), h1, h2, h3.mod_other hb (by decide) M, hp⟩, M⟩

theorem over_live {w : World} {g gb : Nat} {bs : List UInt8} {p : Nat} (h : LiveAt w g gb bs p) :
    Calls Try.prog 51 #[.pointer (some ⟨g, 0, none⟩)] w fun e w' => e = .returned (.bool false) ∧ w = w' := by
  obtain ⟨A, c, hb, h1, h2, h3, h4⟩ := h
  have c2 := hb.cell 2
  simp at c2
  go_enter Try.func51, Try.ntmps51
  go_wp2
  go_ret
  exact ⟨rfl, rfl⟩
theorem over_dead {w : World} {g : Nat} {bs : List UInt8} {a e : Nat} (h : DeadAt w g bs a e) :
    Calls Try.prog 51 #[.pointer (some ⟨g, 0, none⟩)] w fun e w' => e = .returned (.bool true) ∧ w = w' := by
  obtain ⟨A, c, p, k, hb, hk, h1⟩ := h
  have c2 := hb.cell 2
  simp at c2
  go_enter Try.func51, Try.ntmps51
  go_wp2
  go_ret
  exact ⟨rfl, rfl⟩

theorem stop_any {w : World} {g : Nat} {v0 v1 v2 : Value} (a e : Int) (h : Blk w g 76 #[v0, v1, v2]) :
    Calls Try.prog 52 #[.pointer (some ⟨g, 0, none⟩), .int .i64 a, .int .i64 e] w fun r w' => r = .returned (.tuple #[]) ∧
      ∃ k, Blk w' g 76 #[v0, v1, .pointer (some ⟨k, 0, none⟩)] ∧ Blk w' k 58 #[.int .i64 a, .int .i64 e] ∧ Mod (one g) w w' := by
  have c2 := h.cell 2
  simp at c2
  have f2 := h.free 2
  have hl := h.lt
  go_enter Try.func52, Try.ntmps52
  go_wp2
  go_end0
  exact ⟨rfl, w.heap.size, by simpa using (h.put 2 _).alloc _, Blk.new_at _ _ _ (by simp [World.setCell]), ((Mod.refl (one g) w).set (p := ⟨g, 2, none⟩) (fun _ => rfl) _).alloc _⟩

theorem u8_info : (Try.prog.info? 5).map (fun i => (i.zero, i.size, i.bytes)) = some (some (.int .u8 0), 1, 1) := by kernel_rfl

/-- bytes.Clone: a row of its own. -/
theorem clone_any {w : World} {A : Option Addr} {c : Nat} {l : List UInt8} (hr : RdT w A l) (hl : l.length ≤ 140737488355328) :
    Calls Try.prog 50 #[.slice A l.length c] w fun e w' => ∃ A' c', e = .returned (.slice A' l.length c') ∧ w'.ownsRow w.heap.size 5 1 (.slice A' l.length c') l.length (bvs l) ∧ Mod no w w' := by
  obtain ⟨i0, hi, hz0, hz1, hz2⟩ := info_parts u8_info
  rcases A with _ | ad
  · obtain rfl : l = [] := by
      by_cases e : l = []
      · exact e
      · obtain ⟨_, _, _, e, _⟩ := hr e
        cases e
    have heq := fun (W : World) => Lib.run_eql_slice_nil (P := Try.prog) W 23 5 none 0 c 0 0 Try.underlying23
    simp only [Option.isNone_none] at heq
    clear hl hr
    go_enter Try.func50, Try.ntmps50
    go_wp2
    go_ret
    exact ⟨none, 0, rfl, World.ownsRow_nil _ _ _ _, Mod.refl _ _⟩
  · have heq := fun (W : World) => Lib.run_eql_slice_nil (P := Try.prog) W 23 5 (some ad) l.length c 0 0 Try.underlying23
    simp only [Option.isNone_some] at heq
    have HL := Lib.hid hl
    have HR := Lib.hid hr
    clear hl hr
    go_enter Try.func50, Try.ntmps50
    go_wp2_with (at_builtin; refine wpList_append _ rfl (.tmp 5) (.tmp 6) _ rfl w.heap.size 5 i0 (.int .u8 0) 1 1 Try.underlying23 hi hz0 hz1 hz2 rfl (by decide) (.slice (some ⟨w.heap.size, 0, none⟩) 0 0) 0 [] rfl (World.ownsRow_lit w #[] 0 (Nat.le_refl _) (by decide) rfl) (some ad) l.length c (bvs l) rfl ((RdT.mod (S := no) HR.out ((Mod.refl _ _).alloc _) (fun _ _ _ c => c)).rds) (bvs_one l) (by have := HL.out; simp only [maxLen]; omega) (by have := HL.out; omega) (by simp) ?_; intro v1 w1 hown hg hat hnn)
    go_ret
    simp only [Nat.zero_add, List.nil_append] at hown
    obtain ⟨A', c', rfl⟩ := own_form hown
    refine ⟨A', c', rfl, hown, ?_⟩
    refine ((Mod.refl no w).alloc (.cells #[] 5)).trans (Mod.of_grown (S := one w.heap.size) hg ?_) ?_
    · intro k _ e; simp [Value.ownBlock] at e; exact e.symm
    · intro k hk e; simp [one] at e; omega

end Go.Proofs.Ytpfkcejndjnbhaa.WD
