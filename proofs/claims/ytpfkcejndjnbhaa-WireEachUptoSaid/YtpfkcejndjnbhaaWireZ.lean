/- The law's take, by the program: a key; other kinds; all of them. -/
import Derived.Test.YtpfkcejndjnbhaaWireY
namespace Go.Proofs.Ytpfkcejndjnbhaa.WD
open Go.RowKit Mem WM
set_option linter.unusedVariables false
set_option linter.unusedSimpArgs false

theorem key_len (bs : List UInt8) (s : St) : (keyA bs s).2.length = 32 := by
  show (WM.keyOf (rawA bs s 32).2).length = 32
  rcases raw_32 bs s with h | h
  · rw [h]; rfl
  · unfold WM.keyOf; split
    · rfl
    · exact h

theorem conv_range {w : World} {g : Nat} {l : List UInt8} (h : w.rangeAt g 0 (bvs l)) (n c : Nat) (hn : n = l.length) (hl : l ≠ []) :
    (convert 23 9 (.slice (some ⟨g, 0, none⟩) n c)).run Try.prog w = .ok (.string ⟨l.toArray⟩) w := by
  subst hn
  have := run_convert_bytes_arg (P := Try.prog) w _ _ Try.underlying23 Try.underlying5 g 0 l.length c (l.map fun b => (b.toNat : Int)) (by simp) (by
    intro i hi
    have := h i _ (bvs_get l i hi)
    rw [this]
    simp [List.getD, List.getElem?_eq_getElem hi]) _ Try.underlying9
  rw [this, nums_bytes]

/-- A key is stored into a new block: what lies behind it. -/
theorem wpList_store_key {ops : Array Oper} {rest : List Oper} {o : Oper} {a : Act} {Q : Exit → Act → World → Prop} (hgd : o.guard = none) (K : List UInt8) (hK : K.length = 32) (w1 : World) (x y : Operand) (ho : o.op = .store 30 x y)
    (hx : a.eval x = .pointer (some ⟨w1.heap.size, 0, none⟩)) (hy : a.eval y = .agg (bvs K).toArray)
    (h : ∀ W5, W5.rangeAt w1.heap.size 0 (bvs K) → Mod no w1 W5 → wpList Try.prog ops Q rest (a.put o.dst undef) W5) :
    wpList Try.prog ops Q (o :: rest) a (w1.alloc (.cells (Array.replicate 32 (.int .u8 0)) 30)) := by
  have hkb : Blk (w1.alloc (.cells (Array.replicate 32 (.int .u8 0)) 30)) w1.heap.size 30 (Array.replicate 32 (.int .u8 0)) := Blk.new w1 _ _
  have hth : (w1.alloc (.cells (Array.replicate 32 (.int .u8 0)) 30)).there w1.heap.size 0 32 := fun j hj => ⟨by rw [hkb.cell]; simp [hj], hkb.free _⟩
  have hsa : (bvs K).toArray.size = 32 := by rw [List.size_toArray, bvs_length]; exact hK
  refine wpList_store_mid hgd 30 x y ho w1.heap.size 0 (bvs K).toArray hx hy (by rw [hsa]; exact hth) (by rw [hsa]; exact key_size) (all_oneCell_toArray (bvs_one K)) ?_
  refine h _ ?_ ?_
  · exact World.rangeAt_setCells_same _ w1.heap.size 0 (bvs K) (by rw [bvs_length, hK]; exact hth)
  · refine ((Mod.refl no w1).alloc (.cells (Array.replicate 32 (.int .u8 0)) 30)).trans (mod_sets (S := one w1.heap.size) (fun _ => rfl) _ _ _ (Mod.refl _ _)) (fun k hk c => by simp only [one] at c; omega)

set_option maxRecDepth 100000 in
set_option maxHeartbeats 1000000 in
theorem take_key {w : World} {g gb : Nat} {bs : List UInt8} {s : St} (most : Nat) (n : Int) (h : DecAt w g gb bs s) (hb : bs.length ≤ 70368744177664) (hgb : bs ≠ [] → gb < w.heap.size) :
    Calls Try.prog 25 #[.pointer (some ⟨g, 0, none⟩), takeV 4 most n] w fun e w' =>
      e = .returned (gotV 0 (keyA bs s).2) ∧ DecAt w' g gb bs (keyA bs s).1 ∧ Mod (one g) w w' := by
  obtain ⟨ct, htyp⟩ := h.typ
  have hg := htyp.lt
  have H0 := fun o1 o2 => Lib.hid (h.mod (S := no) (((Mod.refl no w).alloc o1).alloc o2) (fun c => c) (fun _ c => c) (fun _ _ _ c => c))
  have hkl := key_len bs s
  have HB := Lib.hid hb
  clear htyp h hb
  unfold takeV
  go_enter Try.func25, Try.ntmps25
  go_wp2_with fail
  refine (key_any (H0 _ _).out (by have := HB.out; omega) (fun hne => by have := hgb hne; simp; omega)).mono ?_
  rintro e w1 ⟨rfl, D1, M1⟩
  have hb4 := got_blk hg M1
  have HD := Lib.hid D1
  have HM := Lib.hid M1
  clear D1 M1
  go_wp2_with (
     refine wpList_store_key rfl (keyA bs s).2 hkl w1 (.tmp 5) (.tmp 33) rfl rfl rfl ?_
     intro W5 hr5 M5
     have hcv := conv_range hr5 32 32 (by rw [hkl]) (by intro e; rw [e] at hkl; simp at hkl)
     have HM5 := Lib.hid M5
     have hb5 := hb4.mod M5 (fun c => c)
     have c0 := hb5.cell 0
     have c1 := hb5.cell 1
     have f0 := hb5.free 0
     have f1 := hb5.free 1
     simp at c0 c1
     clear hr5 M5)
  have MM := HM.out.and_then (HM5.out.mono (S' := one g) (fun _ _ c => False.elim c))
  exact got_done hb5 _ Try.results25 _ rfl rfl _ ⟨rfl, got_dec hg hgb hb5 (by decide) (HD.out.mod HM5.out (fun c => c) (fun _ c => c) (fun _ _ _ c => c)) _ _, got_mod MM _ _⟩

set_option maxRecDepth 100000 in
set_option maxHeartbeats 1000000 in
theorem take_none {w : World} {g gb : Nat} {bs : List UInt8} {s : St} (kind : Int) (most : Nat) (n : Int) (h : DecAt w g gb bs s) (hgb : bs ≠ [] → gb < w.heap.size)
    (h1 : kind ≠ 1) (h2 : kind ≠ 2) (h3 : kind ≠ 3) (h4 : kind ≠ 4) (h5 : kind ≠ 5) (h6 : kind ≠ 6) (h7 : kind ≠ 7) (h8 : kind ≠ 8) (h9 : kind ≠ 9) (h10 : kind ≠ 10) (h11 : kind ≠ 11) (h12 : kind ≠ 12) (h13 : kind ≠ 13) :
    Calls Try.prog 25 #[.pointer (some ⟨g, 0, none⟩), takeV kind most n] w fun e w' =>
      e = .returned (gotV 0 []) ∧ DecAt w' g gb bs s ∧ Mod (one g) w w' := by
  obtain ⟨ct, htyp⟩ := h.typ
  have hg := htyp.lt
  have H0 := Lib.hid h
  clear htyp h
  unfold takeV
  go_enter Try.func25, Try.ntmps25
  go_wp2_with fail
  have hb4 : Blk ((w.alloc (Obj.cells #[Value.int IntKind.i64 kind, Value.int IntKind.u64 (most : Int), Value.int IntKind.i64 n] 69)).alloc (Obj.cells #[Value.int IntKind.u64 0, Value.string { data := #[] }] 66)) (w.heap.size + 1) 66 #[Value.int IntKind.u64 0, Value.string { data := #[] }] := Blk.new_at _ _ _ (by simp)
  exact bodyPost_ret (results_cell_row (P := Try.prog) Try.results25 _ _ (w.heap.size + 1) _ #[Value.int IntKind.u64 0, Value.string { data := #[] }] (0, 0) _ rfl hb4 Try.underlying66 rfl got_size) rfl ⟨rfl, H0.out.mod (S := no) (((Mod.refl no w).alloc _).alloc _) (fun c => c) (fun _ c => c) (fun _ _ _ c => c), ((Mod.refl _ w).alloc _).alloc _⟩

/-- The law's take. -/
theorem take_any {w : World} {g gb : Nat} {bs : List UInt8} {s : St} (kind : Int) (most : Nat) (n : Int) (h : DecAt w g gb bs s) (hb : bs.length ≤ 70368744177664) (hgb : bs ≠ [] → gb < w.heap.size)
    (hm : most < 18446744073709551616) (hn1 : -9223372036854775808 ≤ n) (hn2 : n ≤ 9223372036854775807) :
    Calls Try.prog 25 #[.pointer (some ⟨g, 0, none⟩), takeV kind most n] w fun e w' =>
      e = .returned (gotV (takeA bs s kind most n).2.1 (takeA bs s kind most n).2.2) ∧ DecAt w' g gb bs (takeA bs s kind most n).1 ∧ Mod (one g) w w' := by
  by_cases h1 : kind = 1
  · subst h1; exact take_var most n h hm hgb
  by_cases h2 : kind = 2
  · subst h2; exact take_text most n h hn1 hn2 hgb
  by_cases h3 : kind = 3
  · subst h3; exact take_raw most n h hb hgb
  by_cases h4 : kind = 4
  · subst h4; exact take_key most n h hb hgb
  by_cases h5 : kind = 5
  · subst h5; exact take_fix5 most n h hgb
  by_cases h6 : kind = 6
  · subst h6; exact take_fix6 most n h hgb
  by_cases h7 : kind = 7
  · subst h7; exact take_fix7 most n h hgb
  by_cases h8 : kind = 8
  · subst h8; exact take_fix8 most n h hgb
  by_cases h9 : kind = 9
  · subst h9; exact take_fix9 most n h hgb
  by_cases h10 : kind = 10
  · subst h10; exact take_fix10 most n h hgb
  by_cases h11 : kind = 11
  · subst h11; exact take_fix11 most n h hgb
  by_cases h12 : kind = 12
  · subst h12; exact take_fix12 most n h hgb
  by_cases h13 : kind = 13
  · subst h13; exact take_list most n h hb hn1 hn2 hgb
  have e : takeA bs s kind most n = (s, 0, []) := by simp [takeA, *]
  rw [e]
  exact take_none kind most n h hgb h1 h2 h3 h4 h5 h6 h7 h8 h9 h10 h11 h12 h13

end Go.Proofs.Ytpfkcejndjnbhaa.WD
