/- The law's took, by the document: a key; other kinds; all of them. -/
import Derived.Test.YtpfkcejndjnbhaaTookL
namespace Go.Proofs.Ytpfkcejndjnbhaa.RD
open Go.RowKit Mem WM
open Go.Proofs.Ytpfkcejndjnbhaa.WD (RdT RdB u8_info conv_string own_lower own_mod conv_range fixA_lt raw_len key_size mod_sets raw_32 takeV gotV got_blk got_mod got_done got_size key_len wpList_store_key rowS wpList_put1 varGo_dead)
set_option linter.unusedVariables false
set_option linter.unusedSimpArgs false

set_option maxRecDepth 100000 in
set_option maxHeartbeats 1000000 in
theorem took_key {w : World} {g gb : Nat} {bs : List UInt8} {s : St} (most : Nat) (n : Int) (h : RAt w g gb bs s) (hb : bs.length ≤ 70368744177664) (hgb : bs ≠ [] → gb < w.heap.size) :
    Calls Try.prog 26 #[.pointer (some ⟨g, 0, none⟩), takeV 4 most n] w fun e w' =>
      e = .returned (gotV 0 (keyA bs s).2) ∧ RAt w' g gb bs (keyA bs s).1 ∧ Mod (one g) w w' := by
  obtain ⟨ct, htyp⟩ := h.typ
  have hg := htyp.lt
  have H0 := fun o1 o2 => Lib.hid (h.mod (S := no) (((Mod.refl no w).alloc o1).alloc o2) (fun c => c) (fun _ c => c))
  have hkl := key_len bs s
  have HB := Lib.hid hb
  clear htyp h hb
  unfold takeV
  go_enter Try.func26, Try.ntmps26
  go_wp2_with fail
  refine (rkey_any (H0 _ _).out HB.out (fun hne => by have := hgb hne; simp; omega)).mono ?_
  rintro e w1 ⟨rfl, D1, M1⟩
  have hb4 := got_blk hg M1
  have HD := Lib.hid D1
  have HM := Lib.hid M1
  clear D1 M1
  go_wp2_with (
     refine wpList_store_key rfl (keyA bs s).2 hkl w1 (.tmp 5) (.tmp 37) rfl rfl rfl ?_
     intro W5 hr5 M5
     have hcv := conv_range hr5 32 32 (by rw [hkl]) (by intro e; rw [e] at hkl; simp at hkl)
     have HM5 := Lib.hid M5
     have hb5 := hb4.mod M5 (fun c => c)
     have c0 := hb5.cell 0
     have c1 := hb5.cell 1
     have f0 := hb5.free 0
     have f1 := hb5.free 1
     simp at c0 c1
     clear hr5 M5)
  have MM := HM.out.and_then (HM5.out.mono (S' := one g) (fun _ _ c => False.elim c))
  exact got_done hb5 _ Try.results26 _ rfl rfl _ ⟨rfl, rgot hg hgb (HD.out.mod HM5.out (fun c => c) (fun _ c => c)) _ _, got_mod MM _ _⟩

set_option maxRecDepth 100000 in
set_option maxHeartbeats 1000000 in
theorem took_none {w : World} {g gb : Nat} {bs : List UInt8} {s : St} (kind : Int) (most : Nat) (n : Int) (h : RAt w g gb bs s) (hgb : bs ≠ [] → gb < w.heap.size)
    (h1 : kind ≠ 1) (h2 : kind ≠ 2) (h3 : kind ≠ 3) (h4 : kind ≠ 4) (h5 : kind ≠ 5) (h6 : kind ≠ 6) (h7 : kind ≠ 7) (h8 : kind ≠ 8) (h9 : kind ≠ 9) (h10 : kind ≠ 10) (h11 : kind ≠ 11) (h12 : kind ≠ 12) (h13 : kind ≠ 13) :
    Calls Try.prog 26 #[.pointer (some ⟨g, 0, none⟩), takeV kind most n] w fun e w' =>
      e = .returned (gotV 0 []) ∧ RAt w' g gb bs s ∧ Mod (one g) w w' := by
  obtain ⟨ct, htyp⟩ := h.typ
  have hg := htyp.lt
  have H0 := fun o1 o2 => Lib.hid (h.mod (S := no) (((Mod.refl no w).alloc o1).alloc o2) (fun c => c) (fun _ c => c))
  have M0 := fun o1 o2 => Lib.hid (((Mod.refl (one g) w).alloc o1).alloc o2)
  clear htyp h
  unfold takeV
  go_enter Try.func26, Try.ntmps26
  go_wp2_with fail
  have hb4 : Blk ((w.alloc (Obj.cells #[Value.int IntKind.i64 kind, Value.int IntKind.u64 (most : Int), Value.int IntKind.i64 n] 69)).alloc (Obj.cells #[Value.int IntKind.u64 0, Value.string { data := #[] }] 66)) (w.heap.size + 1) 66 #[Value.int IntKind.u64 0, Value.string { data := #[] }] := Blk.new_at _ _ _ (by simp)
  exact bodyPost_ret (results_cell_row (P := Try.prog) Try.results26 _ _ (w.heap.size + 1) _ #[Value.int IntKind.u64 0, Value.string { data := #[] }] (0, 0) _ rfl hb4 Try.underlying66 rfl got_size) rfl ⟨rfl, (H0 _ _).out, (M0 _ _).out⟩

/-- The law's took. -/
theorem took_any {w : World} {g gb : Nat} {bs : List UInt8} {s : St} (kind : Int) (most : Nat) (n : Int) (h : RAt w g gb bs s) (hb : bs.length ≤ 70368744177664) (hgb : bs ≠ [] → gb < w.heap.size)
    (hm : most < 18446744073709551616) (hn1 : -9223372036854775808 ≤ n) (hn2 : n ≤ 9223372036854775807) :
    Calls Try.prog 26 #[.pointer (some ⟨g, 0, none⟩), takeV kind most n] w fun e w' =>
      e = .returned (gotV (takeA bs s kind most n).2.1 (takeA bs s kind most n).2.2) ∧ RAt w' g gb bs (takeA bs s kind most n).1 ∧ Mod (one g) w w' := by
  by_cases h1 : kind = 1
  · subst h1; exact took_var most n h hb hm hgb
  by_cases h2 : kind = 2
  · subst h2; exact took_text most n h hb hn1 hn2 hgb
  by_cases h3 : kind = 3
  · subst h3; exact took_raw most n h hb hgb
  by_cases h4 : kind = 4
  · subst h4; exact took_key most n h hb hgb
  by_cases h5 : kind = 5
  · subst h5; exact took_fix5 most n h hb hgb
  by_cases h6 : kind = 6
  · subst h6; exact took_fix6 most n h hb hgb
  by_cases h7 : kind = 7
  · subst h7; exact took_fix7 most n h hb hgb
  by_cases h8 : kind = 8
  · subst h8; exact took_fix8 most n h hb hgb
  by_cases h9 : kind = 9
  · subst h9; exact took_fix9 most n h hb hgb
  by_cases h10 : kind = 10
  · subst h10; exact took_fix10 most n h hb hgb
  by_cases h11 : kind = 11
  · subst h11; exact took_fix11 most n h hb hgb
  by_cases h12 : kind = 12
  · subst h12; exact took_fix12 most n h hb hgb
  by_cases h13 : kind = 13
  · subst h13; exact took_list most n h hb hn1 hn2 hgb
  have e : takeA bs s kind most n = (s, 0, []) := by simp [takeA, *]
  rw [e]
  exact took_none kind most n h hgb h1 h2 h3 h4 h5 h6 h7 h8 h9 h10 h11 h12 h13

end Go.Proofs.Ytpfkcejndjnbhaa.RD
