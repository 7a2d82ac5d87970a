/- The program's taker: keys, lists of bytes, where it stands, its end. -/
import Derived.Test.YtpfkcejndjnbhaaWireT
import Derived.Deep.MidRow
namespace Go.Proofs.Ytpfkcejndjnbhaa.WD
open Go.RowKit Mem WM
set_option linter.unusedVariables false
set_option linter.unusedSimpArgs false

theorem key_size : (Try.prog.info? 30).map (·.size) = some 32 := by kernel_rfl

theorem key_end (X : List UInt8) (l : List Value) (h : bvs (WM.keyOf X) = l) : (bvs (WM.keyOf X)).toArray = l.toArray := by rw [h]

theorem raw_32 (bs : List UInt8) (s : St) : (rawA bs s 32).2 = [] ∨ (rawA bs s 32).2.length = 32 := by
  cases s with
  | dead a c => exact .inl rfl
  | live p =>
    simp only [rawA]
    rw [if_neg (by decide)]
    split
    · rename_i h
      right
      have : (32 : Int).toNat = 32 := rfl
      rw [this] at h ⊢
      simp; omega
    · exact .inl rfl

theorem mod_sets {S : Nat → Prop} {b : Nat} {w : World} (hb : b < w.heap.size → S b) : ∀ (vs : List Value) (o : Nat) (w' : World), Mod S w w' → Mod S w (w'.setCells b o vs)
  | [], _, _, h => h
  | v :: vs, o, w', h => mod_sets hb vs (o + 1) (w'.setCell ⟨b, o, none⟩ v) (h.set (p := ⟨b, o, none⟩) hb v)

theorem zeros_one : ((Array.replicate 32 (Value.int .u8 0)).all fun x => x.oneCell') = true := by
  rw [Array.all_eq_true_iff_forall_mem]; intro v hv; rw [Array.mem_replicate] at hv; rw [hv.2]; rfl

theorem key_done (w : World) (g gb : Nat) (bs : List UInt8) (s s1 : St) (w1 : World) (X : List UInt8) (a : Act) (hth : w1.there w.heap.size 0 32) (hkb : Blk w1 w.heap.size 30 (Array.replicate 32 (Value.int .u8 0))) (D : DecAt w1 g gb bs s1) (M0 : Mod (one g) w w1) (hg : g < w.heap.size) (hgb : bs ≠ [] → gb < w.heap.size)
    (vs : List Value) (hvs : vs = bvs (WM.keyOf X)) (hl : vs.length = 32) (h2 : a.tmps[2]? = some (.pointer (some ⟨w.heap.size, 0, none⟩))) (hd : a.defers = []) (fn : Func) (hr : fn.results = #[.cell 2 30]) :
    bodyPost Try.prog fn (fun e w' =>
      e = .returned (.agg (bvs (WM.keyOf X)).toArray) ∧ DecAt w' g gb bs s1 ∧ Mod (one g) w w') Exit.ret a (w1.setCells w.heap.size 0 vs) := by
  have hload := run_loadVar_mid (P := Try.prog) (w1.setCells w.heap.size 0 vs) w.heap.size 0 30 vs _ (World.rangeAt_setCells_same w1 w.heap.size 0 vs (by rw [hl]; exact hth)) Try.underlying30 rfl (by rw [hl]; exact key_size)
  refine bodyPost_ret (v := .agg vs.toArray) ?_ hd ⟨by rw [hvs], D.mod (S := one w.heap.size) (mod_sets (S := one w.heap.size) (fun _ => rfl) _ _ _ (Mod.refl _ _)) ?_ ?_ ?_, ?_⟩
  · simp [results, hr, h2, asAddr, hload]
  · exact fun c => by simp only [one] at c; omega
  · exact fun hne c => by have := hgb hne; simp only [one] at c; omega
  · intro k cs hk c
    simp only [one] at c
    subst c
    have e := hkb.symm.trans hk
    simp at e
  · exact mod_sets (fun c => absurd c (Nat.lt_irrefl _)) _ _ _ M0

set_option maxRecDepth 100000 in
set_option maxHeartbeats 1000000 in
theorem key_any {w : World} {g gb : Nat} {bs : List UInt8} {s : St} (h : DecAt w g gb bs s) (hb : bs.length ≤ 140737488355328) (hgb : bs ≠ [] → gb < w.heap.size) :
    Calls Try.prog 60 #[.pointer (some ⟨g, 0, none⟩)] w fun e w' =>
      e = .returned (.agg (bvs (keyA bs s).2).toArray) ∧ DecAt w' g gb bs (keyA bs s).1 ∧ Mod (one g) w w' := by
  have H := Lib.hid h
  have HB := Lib.hid hb
  obtain ⟨ct, htyp⟩ := h.typ
  show Calls Try.prog 60 #[.pointer (some ⟨g, 0, none⟩)] w fun e w' =>
      e = .returned (.agg (bvs (WM.keyOf (rawA bs s 32).2)).toArray) ∧ DecAt w' g gb bs (rawA bs s 32).1 ∧ Mod (one g) w w'
  have hraw := fun W (h : DecAt W g gb bs s) => raw_any 32 h hb
  have h32 := raw_32 bs s
  generalize (rawA bs s 32).2 = X at *
  generalize (rawA bs s 32).1 = s1 at *
  have HR := Lib.hid hraw
  clear hraw
  have hg := htyp.lt
  clear h hb
  go_enter Try.func60, Try.ntmps60
  go_wp2_with fail
  have H1 : DecAt (w.alloc (.cells (Array.replicate 32 (.int .u8 0)) 30)) g gb bs s := H.out.mod (S := no) ((Mod.refl _ _).alloc _) (fun c => c) (fun _ c => c) (fun _ _ _ c => c)
  refine (HR.out _ H1).mono ?_
  rintro e w1 ⟨A1, c1, rfl, hown, hc1, D1, M1, hnil⟩
  have hkb : Blk w1 w.heap.size 30 (Array.replicate 32 (.int .u8 0)) := (Blk.new w _ _).mod M1 (fun c => by simp only [one] at c; omega)
  have M0 : Mod (one g) w w1 := ((Mod.refl (one g) w).alloc (.cells (Array.replicate 32 (.int .u8 0)) 30)).and_then M1
  clear H1 H
  have HD1 := Lib.hid D1
  clear D1
  have there : ∀ j, j < 32 → (w1.cell? ⟨w.heap.size, 0 + j, none⟩).isSome = true ∧ w1.frozen? ⟨w.heap.size, 0 + j, none⟩ = false := fun j hj => ⟨by rw [hkb.cell]; simp [hj], hkb.free _⟩
  have HTH := Lib.hid (show w1.there w.heap.size 0 32 from there)
  clear there
  rcases h32 with rfl | h32
  · obtain rfl := hnil rfl
    have heq := fun (W : World) => Lib.run_eql_slice_nil (P := Try.prog) W 23 5 none 0 c1 0 0 Try.underlying23
    simp only [Option.isNone_none] at heq
    clear hown hnil HR M1 hc1
    go_wp2_with (refine wpList_store_mid rfl 30 (.tmp 2) (.tmp 8) rfl w.heap.size 0 (Array.replicate 32 (Value.int .u8 0)) rfl rfl HTH.out key_size zeros_one ?_)
    have hz : bvs (WM.keyOf []) = List.replicate 32 (.int .u8 0) := by simp [WM.keyOf, bvs, bv]
    refine key_done w g gb bs s s1 w1 [] _ HTH.out hkb HD1.out M0 hg hgb (List.replicate 32 (.int .u8 0)) hz.symm (by simp) rfl rfl _ Try.results60
  · have hne : X ≠ [] := by rintro rfl; simp at h32
    obtain ⟨ad, rfl⟩ : ∃ ad, A1 = some ad := by
      rcases hown.2 with ⟨e, h0⟩ | ⟨g', cap, cur, e, _⟩
      · omega
      · injection e with e; exact ⟨_, e⟩
    obtain ⟨g3, cs3, rfl, hb3, hcs3⟩ : ∃ g3 cs3, ad = ⟨g3, 0, none⟩ ∧ Blk w1 g3 5 cs3 ∧ ∀ i, i < X.length → cs3[i]? = (bvs X)[i]? := by
      obtain ⟨g', o', cs', e, hb', hc'⟩ := RdT.of_own hown hne
      rcases hown.2 with ⟨e2, h0⟩ | ⟨g2, cap, cur, e2, _⟩
      · omega
      · injection e2 with e2
        injection e2 with e2
        injection e with e
        rw [e2] at e
        injection e with e3 e4
        subst e4
        exact ⟨g2, cs', e2, by rw [e3]; exact hb', by simpa using hc'⟩
    have hrange : w1.rangeAt g3 0 (bvs X) := fun j v hj => by
      have hjl : j < X.length := by have := (List.getElem?_eq_some_iff.1 hj).1; simpa [bvs] using this
      rw [hb3.cell, Nat.zero_add, hcs3 j hjl, hj]
    have HRG := Lib.hid hrange
    have heq := fun (W : World) => Lib.run_eql_slice_nil (P := Try.prog) W 23 5 (some ⟨g3, 0, none⟩) X.length c1 0 0 Try.underlying23
    simp only [Option.isNone_some] at heq
    have harr := fun (W : World) => run_arrayAt (P := Try.prog) W 30 5 32 (some ⟨g3, 0, none⟩) X.length c1 Try.underlying30 (by omega)
    have hbl : (bvs X).length = 32 := by rw [bvs_length]; exact h32
    have hsz : (bvs X).toArray.size = 32 := by rw [List.size_toArray]; exact hbl
    have HT2 := Lib.hid (show w1.there w.heap.size 0 (bvs X).toArray.size by rw [hsz]; exact HTH.out)
    have HK2 := Lib.hid (show (Try.prog.info? 30).map (·.size) = some (bvs X).toArray.size by rw [hsz]; exact key_size)
    have HA2 := Lib.hid (all_oneCell_toArray (bvs_one X))
    have HO := Lib.hid hown
    have HX := Lib.hid h32
    have HBL := Lib.hid hbl
    clear hsz hown h32 hnil hcs3 hrange hbl HR M1
    go_wp2_with (
         refine wpList_load_mid rfl 30 (.tmp 10) rfl g3 0 rfl (bvs X) _ HRG.out Try.underlying30 rfl (by rw [HBL.out]; exact key_size) ?_
         refine wpList_store_mid rfl 30 (.tmp 2) (.tmp 11) rfl w.heap.size 0 (bvs X).toArray rfl rfl HT2.out HK2.out HA2.out ?_)
    refine key_done w g gb bs s s1 w1 X _ HTH.out hkb HD1.out M0 hg hgb (bvs X) (by simp [WM.keyOf, hne]) HBL.out ?_ ?_ _ Try.results60
    · rfl
    · rfl

end Go.Proofs.Ytpfkcejndjnbhaa.WD
