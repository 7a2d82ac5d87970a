/- The document's taker: a key. -/
import Derived.Test.YtpfkcejndjnbhaaRefT
namespace Go.Proofs.Ytpfkcejndjnbhaa.RD
open Go.RowKit Mem WM
open Go.Proofs.Ytpfkcejndjnbhaa.WD (RdT RdB u8_info conv_string own_lower own_mod conv_range fixA_lt raw_len key_size mod_sets raw_32)
set_option linter.unusedVariables false
set_option linter.unusedSimpArgs false

/-- A key's cells while they are filled. -/
def kcells (X : List UInt8) (j : Nat) : Array Value := (bvs (X.take j ++ List.replicate (32 - j) 0)).toArray

theorem kcells_set (X : List UInt8) (j : Nat) (h : j < X.length) (h32 : X.length = 32) : (kcells X j).setIfInBounds j (.int .u8 (X[j].toNat : Int)) = kcells X (j + 1) := by
  unfold kcells
  rw [List.setIfInBounds_toArray]
  congr 1
  have e : (Value.int .u8 (X[j].toNat : Int)) = bv X[j] := rfl
  rw [e]
  unfold bvs
  rw [← List.map_set]
  congr 1
  have hl : (X.take j).length = j := by simp; omega
  rw [List.set_append_right _ _ (by omega), hl, Nat.sub_self, show 32 - j = (32 - (j + 1)) + 1 by omega, List.replicate_succ, List.set_cons_zero, List.take_succ_eq_append_getElem h, List.append_assoc]
  rfl

theorem rkey_done (w : World) (g gb : Nat) (bs : List UInt8) (s : St) (w1 wr : World) (vs : List Value) (a : Act) (hth : wr.there w.heap.size 0 32) (D : RAt w1 g gb bs (keyA bs s).1) (M0 : Mod (one g) w w1) (M : Mod (one (w.heap.size + 1)) w1 wr) (hg : g < w.heap.size) (hgb : bs ≠ [] → gb < w.heap.size)
    (hvs : vs = bvs (keyA bs s).2) (hl : vs.length = 32) (h2 : a.tmps[2]? = some (.pointer (some ⟨w.heap.size, 0, none⟩))) (hd : a.defers = []) (fn : Func) (hr : fn.results = #[.cell 2 30]) :
    bodyPost Try.prog fn (fun e w' =>
      e = .returned (.agg (bvs (keyA bs s).2).toArray) ∧ RAt w' g gb bs (keyA bs s).1 ∧ Mod (one g) w w') Exit.ret a (wr.setCells w.heap.size 0 vs) := by
  have hload := run_loadVar_mid (P := Try.prog) (wr.setCells w.heap.size 0 vs) w.heap.size 0 30 vs _ (World.rangeAt_setCells_same wr w.heap.size 0 vs (by rw [hl]; exact hth)) Try.underlying30 rfl (by rw [hl]; exact key_size)
  have MM : Mod (fun b => b = w.heap.size ∨ b = w.heap.size + 1) w1 wr := M.mono fun _ _ c => .inr c
  refine bodyPost_ret (v := .agg vs.toArray) ?_ hd ⟨by rw [hvs], D.mod (mod_sets (S := fun b => b = w.heap.size ∨ b = w.heap.size + 1) (fun _ => .inl rfl) _ _ _ MM) ?_ ?_, ?_⟩
  · simp [results, hr, h2, asAddr, hload]
  · omega
  · exact fun hne c => by have := hgb hne; omega
  · exact mod_sets (fun c => absurd c (Nat.lt_irrefl _)) _ _ _ (M0.trans M (fun k hk c => by simp only [one] at c; omega))

set_option maxRecDepth 100000 in
set_option maxHeartbeats 1000000 in
theorem rkey_any {w : World} {g gb : Nat} {bs : List UInt8} {s : St} (h : RAt w g gb bs s) (hb : bs.length ≤ 70368744177664) (hgb : bs ≠ [] → gb < w.heap.size) :
    Calls Try.prog 72 #[.pointer (some ⟨g, 0, none⟩)] w fun e w' =>
      e = .returned (.agg (bvs (keyA bs s).2).toArray) ∧ RAt w' g gb bs (keyA bs s).1 ∧ Mod (one g) w w' := by
  have H := Lib.hid h
  have HB := Lib.hid hb
  obtain ⟨ct, htyp⟩ := h.typ
  have hg := htyp.lt
  have H0 := fun o1 o2 => Lib.hid (h.mod (S := no) (((Mod.refl no w).alloc o1).alloc o2) (fun c => c) (fun _ c => c))
  have h32 := raw_32 bs s
  clear h hb htyp
  go_enter Try.func72, Try.ntmps72
  go_wp2_with fail
  refine (rraw_any 32 (H0 _ _).out HB.out).mono ?_
  rintro e w1 ⟨A1, k1, rfl, hown, D1, M1⟩
  have HD := Lib.hid D1
  have hk2 : Blk w1 w.heap.size 30 (Array.replicate 32 (.int .u8 0)) := Blk.mod (Blk.mod (S := no) (Blk.new w _ _) ((Mod.refl _ _).alloc _) (fun c => c)) M1 (fun c => by simp only [one] at c; omega)
  have hk3 : Blk w1 (w.heap.size + 1) 30 (Array.replicate 32 (.int .u8 0)) := Blk.mod (Blk.new_at _ _ _ (by simp)) M1 (fun c => by simp only [one] at c; omega)
  have hrd := RdT.of_own hown
  have HRD := Lib.hid hrd
  have HM := Lib.hid M1
  obtain ⟨X, hX⟩ : ∃ X, X = (rawA bs s 32).2 := ⟨_, rfl⟩
  rw [← hX] at h32 HRD ⊢
  have HX := Lib.hid hX
  clear D1 hown hrd M1 hX
  go_wp2_with fail
  go_loopw [5] (fun i wr => ∃ j : Nat, j ≤ X.length ∧ i = .int .i64 (j : Int) ∧ Blk wr (w.heap.size + 1) 30 (kcells X j) ∧ Mod (one (w.heap.size + 1)) w1 wr) (fun i _ => X.length - (intOf i).toNat)
  case atStart => exact ⟨0, Nat.zero_le _, rfl, hk3, Mod.refl _ _⟩
  case round =>
    obtain ⟨j, hj, rfl, hk, M⟩ := hrel
    by_cases hlt : j < X.length
    · have hx32 : X.length = 32 := by
        rcases h32 with e | e
        · rw [e] at hlt; simp at hlt
        · exact e
      obtain ⟨g3, o3, cs3, rfl, B3, C3⟩ := HRD.out (by rintro rfl; simp at hlt)
      have B4 := B3.mod M (fun c => by
        simp only [one] at c; subst c
        have e := hk3.symm.trans B3
        simp at e)
      have ct1 : wr.cell? ⟨g3, o3 + j, none⟩ = some (.int .u8 (X[j].toNat : Int)) := by rw [B4.cell, C3 j hlt, bvs_get X j hlt]
      have ck := hk.cell j
      have fk := hk.free j
      have hks : (kcells X j).size = 32 := by simp [kcells, bvs]; omega
      obtain ⟨v0, hv0⟩ : ∃ v0, (kcells X j)[j]? = some v0 := ⟨_, Array.getElem?_eq_getElem (by omega)⟩
      rw [hv0] at ck
      have hset := kcells_set X j hlt hx32
      have HS := Lib.hid hset
      have HK := Lib.hid hk
      have HC := Lib.hid C3
      clear hset hk C3 hv0
      have hjl : (j : Int) < 32 := by omega
      go_wp2_with fail
      refine ⟨⟨j + 1, hlt, by go_num, by rw [← HS.out]; exact HK.out.put j _, M.set (p := ⟨w.heap.size + 1, j, none⟩) (fun _ => rfl) _⟩, ?_⟩
      simp [intOf]; omega
    · obtain rfl : j = X.length := by omega
      have hks : (kcells X X.length).size = 32 := by
        rcases h32 with e | e
        · rw [e]; rfl
        · simp [kcells, bvs]; omega
      have hkc : kcells X X.length = (bvs (WM.keyOf X)).toArray := by
        rcases h32 with e | e
        · rw [e]; rfl
        · unfold kcells WM.keyOf
          rw [List.take_of_length_le (Nat.le_refl _), e, if_neg (by rintro rfl; simp at e)]
          simp
      have B1 := hk
      rw [hkc] at B1
      have B2 := hk2.mod M (fun c => by simp only [one] at c; omega)
      have hbl : (bvs (WM.keyOf X)).length = 32 := by rw [← List.size_toArray, ← hkc]; exact hks
      have hrange : wr.rangeAt (w.heap.size + 1) 0 (bvs (WM.keyOf X)) := fun j v hj => by
        rw [B1.cell, Nat.zero_add, List.getElem?_toArray, hj]
      have HRG := Lib.hid hrange
      have HTH := Lib.hid (show wr.there w.heap.size 0 32 from fun j hj => ⟨by rw [B2.cell]; simp [hj], B2.free _⟩)
      have hsz : (bvs (WM.keyOf X)).toArray.size = 32 := by rw [List.size_toArray]; exact hbl
      have HT2 := Lib.hid (show wr.there w.heap.size 0 (bvs (WM.keyOf X)).toArray.size by rw [hsz]; exact HTH.out)
      have HK2 := Lib.hid (show (Try.prog.info? 30).map (·.size) = some (bvs (WM.keyOf X)).toArray.size by rw [hsz]; exact key_size)
      have HA2 := Lib.hid (all_oneCell_toArray (bvs_one (WM.keyOf X)))
      have HBL := Lib.hid hbl
      have HMM := Lib.hid M
      clear hrange hsz hbl B1 B2 hk2 hk3 hk hkc hks M hj
      go_wp2_with (
         refine wpList_load_mid rfl 30 (.tmp 3) rfl (w.heap.size + 1) 0 rfl (bvs (WM.keyOf X)) _ HRG.out Try.underlying30 rfl (by rw [HBL.out]; exact key_size) ?_
         refine wpList_store_mid rfl 30 (.tmp 2) (.tmp 20) rfl w.heap.size 0 (bvs (WM.keyOf X)).toArray rfl rfl HT2.out HK2.out HA2.out ?_)
      refine rkey_done w g gb bs s w1 wr (bvs (WM.keyOf X)) _ HTH.out HD.out ((((Mod.refl (one g) w).alloc _).alloc _).and_then HM.out) HMM.out hg ?_ ?_ HBL.out ?_ ?_ _ Try.results72
      · exact hgb
      · rw [HX.out]; rfl
      · rfl
      · rfl

end Go.Proofs.Ytpfkcejndjnbhaa.RD
