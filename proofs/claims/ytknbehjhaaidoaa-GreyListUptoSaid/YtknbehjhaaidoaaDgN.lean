/- A new row of entries, and the work list over it. -/
import Derived.Test.YtknbehjhaaidoaaDgR
namespace Go.Proofs.Ytknbehjhaaidoaa.DG
open Go.RowKit Mem DQ
set_option linter.unusedVariables false
set_option linter.unusedSimpArgs false

def zl : List Value := List.replicate 32 (.int .u8 0) ++ [.int .i64 0]
theorem zl_ele : Ele zl := ⟨rfl, fun v hv => by
  rcases List.mem_append.1 hv with h | h
  · rw [List.eq_of_mem_replicate h]; rfl
  · simp at h; subst h; rfl⟩
theorem grey_zero : (Try.prog.info? 89).map (fun i => (i.zero, i.size, i.bytes)) = some (some (.agg zl.toArray), 33, 40) := by kernel_rfl
theorem made_greys : madeCells (Value.agg zl.toArray).cells (8 * 33) = ((List.replicate 8 zl).flatten).toArray := by kernel_rfl
theorem own_blk33 {w : World} {base g n : Nat} {e : TypeId} {xs : List Value} (h : w.ownsRow base e 33 (.slice (some ⟨g, 0, none⟩) n n) n xs) : Blk w g e xs.toArray := by
  rcases h.2 with ⟨hv, _⟩ | ⟨g', cap, cur, hv, _, hb, _, _, hcs, h4⟩
  · cases hv
  · injection hv with hv h5 h6
    injection hv with hv
    injection hv with hv
    subst hv h6
    have hb : Blk w g e cur := hb
    have : cur = xs.toArray := by
      apply Array.ext'
      rw [← h4, List.take_of_length_le (by simp; omega)]
    rw [← this]; exact hb

def NilI (w0 : World) (i : Value) (wr : World) : Prop := i = .int .i64 0 ∧ wr = w0

set_option maxRecDepth 100000 in
set_option maxHeartbeats 4000000 in
theorem new_any {w : World} :
    Calls Try.prog 38 #[.slice none 0 0] w fun e w' => ∃ g gr, e = .returned (.pointer (some ⟨g, 0, none⟩)) ∧ DgAt w' g gr (List.replicate 8 zl) 0 [] ∧ w.heap.size ≤ g ∧ w.heap.size ≤ gr ∧ Mod no w w' := by
  obtain ⟨i0, hi, hz0, hz1, hz2⟩ := info_parts grey_zero
  have HI0 := Lib.hid (And.intro hi (And.intro hz0 (And.intro hz1 hz2)))
  clear hi hz0 hz1 hz2
  go_enter Try.func38, Try.ntmps38
  go_wp2_with (first
    | (at_make
       refine wpList_make_full _ rfl (.const (.int .i64 8)) (.const (.int .i64 8)) 35 rfl 0 89 i0 (.agg zl.toArray) 33 Try.underlying35 HI0.out.1 HI0.out.2.1 HI0.out.2.2.1 .i64 .i64 8 8 8 rfl rfl rfl rfl ?_ (by decide) (Nat.zero_le _) ?_
       · rw [HI0.out.2.2.2]; decide
       intro w1 hown hg1
       have hb1 := own_blk33 hown
       rw [made_greys] at hb1
       have H1 := Lib.hid (And.intro hb1 (Mod.of_grown (S := no) hg1 (fun _ _ e => by cases e)))
       clear hown hg1 hb1))
  have hs := H1.out.2.size
  have h0 : DgAt (w1.alloc (.cells #[.bool true, .slice (some ⟨w.heap.size, 0, none⟩) 8 8, .int .i64 0, .int .i64 0] 121)) w1.heap.size w.heap.size (List.replicate 8 zl) 0 [] :=
    ⟨by simpa using Blk.new w1 _ _, H1.out.1.alloc _, fun x hx => by rw [List.eq_of_mem_replicate hx]; exact zl_ele, Holds.nil _ (by decide), by decide⟩
  have H0 := Lib.hid (And.intro h0 (H1.out.2.alloc (.cells #[.bool true, .slice (some ⟨w.heap.size, 0, none⟩) 8 8, .int .i64 0, .int .i64 0] 121)))
  clear h0
  generalize w1.alloc (.cells #[.bool true, .slice (some ⟨w.heap.size, 0, none⟩) 8 8, .int .i64 0, .int .i64 0] 121) = w2 at *
  go_loopw [11] (NilI w2) (fun i _ => 0)
  case atStart => exact ⟨rfl, rfl⟩
  case round =>
    obtain ⟨rfl, rfl⟩ := hrel
    go_wp2_with fail
    go_ret
    exact ⟨w1.heap.size, w.heap.size, rfl, H0.out.1, hs, Nat.le_refl _, H0.out.2⟩

set_option maxRecDepth 100000 in
theorem row_any {w : World} {lg : Nat} {p : Option Addr} (h : Blk w lg 95 #[.pointer p]) :
    Calls Try.prog 48 #[.pointer (some ⟨lg, 0, none⟩)] w fun e w' => e = .returned (.pointer p) ∧ w = w' := by
  have c0 := h.cell 0
  simp at c0
  clear h
  go_enter Try.func48, Try.ntmps48
  go_wp2_with fail
  go_ret
  exact ⟨rfl, rfl⟩

set_option maxRecDepth 100000 in
theorem end_bottom {w : World} {v : Value} : Calls Try.prog 75 #[v, .bool true] w fun e w' => e = .returned (.int .i64 0) ∧ w = w' := by
  go_enter Try.func75, Try.ntmps75
  go_wp2_with fail
  go_ret
  exact ⟨rfl, rfl⟩

set_option maxRecDepth 100000 in
theorem llen_any {w : World} {lg g gr f : Nat} {C L : List (List Value)} (hl : Blk w lg 95 #[.pointer (some ⟨g, 0, none⟩)]) (h : DgAt w g gr C f L) :
    Calls Try.prog 18 #[.pointer (some ⟨lg, 0, none⟩)] w fun e w' => e = .returned (.int .i64 (L.length : Int)) ∧ w = w' := by
  have HL := Lib.hid hl
  have HH := Lib.hid h
  clear hl h
  go_enter Try.func18, Try.ntmps18
  go_wp2_with (first
    | (go_at_call 48; refine (row_any HL.out).mono ?_; rintro e w' ⟨rfl, rfl⟩)
    | (go_at_call 49; refine (len_any HH.out).mono ?_; rintro e w' ⟨rfl, rfl⟩))
  go_ret
  exact ⟨rfl, rfl⟩

set_option maxRecDepth 100000 in
theorem lnew_any {w : World} :
    Calls Try.prog 15 #[] w fun e w' => ∃ lg g gr, e = .returned (.pointer (some ⟨lg, 0, none⟩)) ∧ Blk w' lg 95 #[.pointer (some ⟨g, 0, none⟩)] ∧ DgAt w' g gr (List.replicate 8 zl) 0 [] ∧ w.heap.size ≤ g ∧ w.heap.size ≤ gr ∧ w.heap.size ≤ lg ∧ Mod no w w' := by
  go_enter Try.func15, Try.ntmps15
  go_wp2_with fail
  refine new_any.mono ?_
  rintro e w1 ⟨g, gr, rfl, h1, h2, h3, h4⟩
  have H1 := Lib.hid (And.intro h1 (And.intro h2 (And.intro h3 h4)))
  clear h1 h2 h3 h4
  go_wp2_with fail
  go_ret
  obtain ⟨h1, h2, h3, h4⟩ := H1.out
  exact ⟨w1.heap.size, g, gr, rfl, Blk.new w1 _ _, h1.mod ((Mod.refl no w1).alloc _) (fun c => c) (fun c => c), h2, h3, h4.size, h4.alloc _⟩

end Go.Proofs.Ytknbehjhaaidoaa.DG
