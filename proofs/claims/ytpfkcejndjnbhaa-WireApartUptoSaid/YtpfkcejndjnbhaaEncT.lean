/- What is added to: texts, bytes, keys. -/
import Derived.Test.YtpfkcejndjnbhaaEncV
namespace Go.Proofs.Ytpfkcejndjnbhaa.EN
open Go.RowKit Mem WM
open Go.Proofs.Ytpfkcejndjnbhaa.WD (RdT RdB u8_info own_mod clone_any own_lower key_size)
open Go.Proofs.Ytpfkcejndjnbhaa.OP (atA cell_lt)
set_option linter.unusedVariables false
set_option linter.unusedSimpArgs false

theorem rds_mod {S : Nat → Prop} {w w' : World} {size m : Nat} {A : Option Addr} {xs : List Value} (h : Rds w size A m xs) (hm : Mod S w w') (hs : 0 < m → ∀ ad, A = some ad → ¬ S ad.block) : Rds w' size A m xs := by
  refine ⟨h.1, fun hp => ?_⟩
  obtain ⟨ad, rfl, hc⟩ := h.2 hp
  refine ⟨ad, rfl, fun j u hu => ?_⟩
  have := hc j u hu
  rw [← this]
  refine hm.cell (cell_lt this) (fun c => hs hp ad rfl ?_)
  have e : (ad.add j).block = ad.block := by unfold Addr.add; split <;> rfl
  rwa [e] at c

theorem EncR.mod {S : Nat → Prop} {w w' : World} {g : Nat} {A : Option Addr} {bs : List UInt8} (h : EncR w g A bs) (hm : Mod S w w') (hg : ¬ S g) (hs : ∀ b, atA A b → ¬ S b)
    (hN : A = none → ∀ b cs, (Blk w b 5 cs ∨ Blk w b 26 cs) → ¬ S b) : EncR w' g A bs := by
  rcases h with h | ⟨hA, A0, c, ow, hb, hr, how⟩
  · exact .inl (h.mod hm hg hs)
  · refine .inr ⟨hA, A0, c, ow, hb.mod hm hg, hr.mod hm (fun b cs hb' => hN hA b cs (.inl hb')), ?_⟩
    rcases how with h1 | ⟨q, cs, hq, h2, hqb⟩
    · exact .inl h1
    · exact .inr ⟨q, cs, hq, h2, hqb.mod hm (hN hA q cs (.inr hqb))⟩

theorem EncR.mod_no {w w' : World} {g : Nat} {A : Option Addr} {bs : List UInt8} (h : EncR w g A bs) (hm : Mod no w w') : EncR w' g A bs := h.mod hm (fun c => c) (fun _ _ c => c) (fun _ _ _ _ c => c)

set_option maxRecDepth 100000 in
set_option maxHeartbeats 1000000 in
theorem text_add {w : World} {g : Nat} {A : Option Addr} {bs : List UInt8} (l : List UInt8) (h : EncR w g A bs) (hl : bs.length + l.length ≤ 140737470000000) :
    Calls Try.prog 36 #[.pointer (some ⟨g, 0, none⟩), .string ⟨l.toArray⟩] w fun e w' => e = .returned (.tuple #[]) ∧ Added w g A (bs ++ (varBytes l.length ++ l)) w' := by
  have H := Lib.hid h
  have HL := Lib.hid hl
  have hsz : (ByteArray.mk l.toArray).size = l.length := rfl
  have e1 : IntKind.u64.wrap (l.length : Int) = (l.length : Int) := IntWalk.u64_in _ (by omega)
  have e2 : ((ByteArray.mk l.toArray).size : Int) = (l.length : Int) := rfl
  clear h hl
  go_enter Try.func36, Try.ntmps36
  go_wp2_with fail
  refine (var_add l.length (by have := HL.out; omega) H.out (by have := HL.out; omega)).mono ?_
  rintro e w1 ⟨rfl, A1, hA1, ⟨c1, hb, hrow⟩, M1⟩
  have d0 := hb.cell 0
  have d1 := hb.cell 1
  have f0 := hb.free 0
  simp at d0 d1
  have HRW := Lib.hid hrow
  have HM := Lib.hid M1
  have HA := Lib.hid hA1
  have HVL := Lib.hid (varBytes_10 (v := l.length) (by have := HL.out; omega))
  clear hrow M1 hA1
  go_wp2_with (at_builtin; refine wpList_encs rfl (.tmp 15) (.tmp 16) rfl w1 A1 c1 _ (bs ++ varBytes l.length) (by simp) rfl HRW.out l rfl (by have := HL.out; have := HVL.out; simp; omega) ?_; intro A3 c3 w3 hA3 hR3 hM3; obtain ⟨hb3, hadd⟩ := enc_store hb HRW.out hA3 hR3 hM3; have g0 := hb3.cell 0; have g1 := hb3.cell 1; have e0 := hb3.free 0; simp at g0 g1; have HADD := Lib.hid hadd; clear hadd hA3 hR3 hM3)
  go_end0
  refine ⟨rfl, ?_⟩
  rw [← List.append_assoc]
  exact Added.then_ HA.out HM.out (HADD.out _ (by simp <;> omega))

set_option maxRecDepth 100000 in
set_option maxHeartbeats 1000000 in
theorem raw_add {w : World} {g : Nat} {A : Option Addr} {bs : List UInt8} {A2 : Option Addr} {n c2 : Nat} (l : List UInt8) (hn : n = l.length) (h : EncR w g A bs) (hl : bs.length + l.length ≤ 140737470000000) (hr : Rds w 1 A2 l.length (bvs l)) (hs : 0 < l.length → ∀ ad, A2 = some ad → ad.block ≠ g) :
    Calls Try.prog 33 #[.pointer (some ⟨g, 0, none⟩), .slice A2 n c2] w fun e w' => e = .returned (.tuple #[]) ∧ Added w g A (bs ++ l) w' := by
  have H := Lib.hid h
  have HL := Lib.hid hl
  have HR := Lib.hid hr
  have HS := Lib.hid hs
  have HN := Lib.hid hn
  clear h hl hr hs hn
  go_enter Try.func33, Try.ntmps33
  go_wp2_with fail
  refine (ours_any H.out (by have := HL.out; omega)).mono ?_
  rintro e w1 ⟨rfl, A1, hA1, ⟨c1, hb, hrow⟩, M1⟩
  have d0 := hb.cell 0
  have d1 := hb.cell 1
  have f0 := hb.free 0
  simp at d0 d1
  have HRW := Lib.hid hrow
  have HM := Lib.hid M1
  have HA := Lib.hid hA1
  clear hrow M1 hA1
  go_wp2_with (at_builtin; refine wpList_enc rfl (.tmp 12) (.tmp 13) rfl w1 A1 c1 _ bs rfl rfl HRW.out A2 _ c2 l HN.out rfl (by rw [HN.out]; exact rds_mod HR.out HM.out HS.out) (by have := HL.out; have := HN.out; omega) ?_; intro A3 c3 w3 hA3 hR3 hM3; obtain ⟨hb3, hadd⟩ := enc_store hb HRW.out hA3 hR3 hM3; have g0 := hb3.cell 0; have g1 := hb3.cell 1; have e0 := hb3.free 0; simp at g0 g1; have HADD := Lib.hid hadd; clear hadd hA3 hR3 hM3)
  go_end0
  exact ⟨rfl, Added.then_ HA.out (one_enc HM.out) (HADD.out _ (by simp))⟩

set_option maxRecDepth 100000 in
set_option maxHeartbeats 1000000 in
theorem key_add {w : World} {g : Nat} {A : Option Addr} {bs : List UInt8} (K : List UInt8) (hK : K.length = 32) (h : EncR w g A bs) (hl : bs.length ≤ 140737460000000) :
    Calls Try.prog 37 #[.pointer (some ⟨g, 0, none⟩), .agg (bvs K).toArray] w fun e w' => e = .returned (.tuple #[]) ∧ Added w g A (bs ++ K) w' := by
  have H := Lib.hid h
  obtain ⟨cs, hgb⟩ := h.blk
  have hg := hgb.lt
  have HL := Lib.hid hl
  clear h hl hgb
  go_enter Try.func37, Try.ntmps37
  go_wp2_with fail
  refine (raw_add K hK.symm (H.out.mod_no ((Mod.refl no w).alloc _)) (by have := HL.out; omega) ?_ ?_).mono ?_
  · have hb := Blk.new w 30 (bvs K).toArray
    exact Rds.of_blk (o := 0) hb (by simp [bvs]) (fun j u hu => by simpa using hu)
  · intro _ ad e
    injection e with e
    subst e
    show w.heap.size ≠ g
    omega
  rintro e w1 ⟨rfl, A1, hA1, E1, M1⟩
  have HE := Lib.hid E1
  have HM := Lib.hid M1
  have HA := Lib.hid hA1
  clear E1 M1 hA1
  go_wp2_with fail
  go_end0
  have M0 : Mod no w (w.alloc (Obj.cells (bvs K).toArray 30)) := (Mod.refl no w).alloc _
  exact ⟨rfl, A1, (nextA.refl w A).trans HA.out M0.size, HE.out, (M0.mono (S' := encS g A) (fun _ _ c => False.elim c)).and_then HM.out⟩

end Go.Proofs.Ytpfkcejndjnbhaa.EN
