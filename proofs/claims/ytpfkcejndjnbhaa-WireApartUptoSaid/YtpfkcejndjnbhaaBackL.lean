/- The law on what was added and is taken off again. -/
import Derived.Test.YtpfkcejndjnbhaaBack
namespace Go.Proofs.Ytpfkcejndjnbhaa.BK
open Go.RowKit Mem WM
open Go.Proofs.Ytpfkcejndjnbhaa.WD (RdT RdB u8_info own_mod key_size takeV gotV conv_string LiveAt DecAt open_any raw_any take_any end_any at_any left_any endV)
open Go.Proofs.Ytpfkcejndjnbhaa.OP (AddI AddAt allB allB_0 allB_succ Elems atA cell_lt)
open Go.Proofs.Ytpfkcejndjnbhaa.EN
set_option linter.unusedVariables false
set_option linter.unusedSimpArgs false

theorem back_any {w : World} (a : AddI) (A : Option Addr) (c : Nat) :
    Calls Try.prog 34 #[addV a.kind a.N a.S A a.B.length c a.K] w fun e w' => e = .returned (takeV a.kind (backM a) (backN a)) ∧ Mod no w w' := by
  obtain ⟨k, N, S, B, K⟩ := a
  by_cases h2 : k = 2
  · subst h2; exact back_text N S A B.length c K
  by_cases h3 : k = 3
  · subst h3; exact back_raw N S A B.length c K
  by_cases h13 : k = 13
  · subst h13; exact back_list N S A B.length c K
  have e1 : backM ⟨k, N, S, B, K⟩ = N := by simp [backM, *]
  have e2 : backN ⟨k, N, S, B, K⟩ = 0 := by simp [backN, *]
  rw [e1, e2]
  exact back_num N S A B.length c K k h2 h3 h13

theorem same_any {w : World} (a : AddI) (ok : a.ok) (A : Option Addr) (c : Nat) (hr : Rds w 1 A a.B.length (bvs a.B)) :
    Calls Try.prog 35 #[addV a.kind a.N a.S A a.B.length c a.K, gotV (sameN a) (sameB a)] w fun e w' => e = .returned (.bool true) ∧ Mod no w w' := by
  obtain ⟨hN, hK⟩ := ok
  obtain ⟨k, N, S, B, K⟩ := a
  by_cases h1 : k = 1
  · subst h1; exact same_num1 N S A B.length c K
  by_cases h2 : k = 2
  · subst h2; exact same_text N S A B.length c K
  by_cases h3 : k = 3
  · subst h3; exact same_raw N S A B.length c K B rfl hr
  by_cases h4 : k = 4
  · subst h4; exact same_key N S A B.length c K hK
  by_cases h5 : k = 5
  · subst h5; exact same_fix5 N S A B.length c K
  by_cases h6 : k = 6
  · subst h6; exact same_fix6 N S A B.length c K
  by_cases h7 : k = 7
  · subst h7; exact same_fix7 N S A B.length c K
  by_cases h8 : k = 8
  · subst h8; exact same_fix8 N S A B.length c K
  by_cases h9 : k = 9
  · subst h9; exact same_fix9 N S A B.length c K
  by_cases h10 : k = 10
  · subst h10; exact same_fix10 N S A B.length c K
  by_cases h11 : k = 11
  · subst h11; exact same_num11 N S A B.length c K
  by_cases h12 : k = 12
  · subst h12; exact same_num12 N S A B.length c K
  by_cases h13 : k = 13
  · subst h13; exact same_list N S A B.length c K B rfl hr
  have e1 : sameN ⟨k, N, S, B, K⟩ = 0 := by simp [sameN, *]
  have e2 : sameB ⟨k, N, S, B, K⟩ = [] := by simp [sameB, *]
  rw [e1, e2]
  exact same_none N S A B.length c K k h1 h2 h3 h4 h5 h6 h7 h8 h9 h10 h11 h12 h13

theorem allB_split (F : Nat → AddI) {k n : Nat} (h : k < n) : ∃ rest, allB F n = allB F k ++ ((F k).bytes ++ rest) := by
  obtain ⟨m, rfl⟩ : ∃ m, n = k + 1 + m := ⟨n - (k + 1), by omega⟩
  clear h
  induction m with
  | zero => exact ⟨[], by simp [allB_succ]⟩
  | succ m ih =>
    obtain ⟨rest, e⟩ := ih
    exact ⟨rest ++ (F (k + 1 + m)).bytes, by rw [show k + 1 + (m + 1) = (k + 1 + m) + 1 by omega, allB_succ, e]; simp⟩
theorem allB_le (F : Nat → AddI) {k n : Nat} (h : k ≤ n) : (allB F k).length ≤ (allB F n).length := by
  rcases Nat.lt_or_ge k n with c | c
  · obtain ⟨rest, e⟩ := allB_split F c
    rw [e]; simp
  · rw [show k = n by omega]; exact Nat.le_refl _

/-- An add is read where it lies. -/
theorem add_range {W : World} {b o n : Nat} {E : Nat → List Value} {i : Nat} (h : (E i).length = 36 ∧ ∀ k, k < 36 → W.cell? ⟨b, o + i * 36 + k, none⟩ = (E i)[k]?) : W.rangeAt b (o + i * 36) (E i) := fun j v hv => by
  have hj : j < 36 := by have := (List.getElem?_eq_some_iff.1 hv).1; omega
  rw [h.2 j hj, hv]
theorem range_mod {S : Nat → Prop} {w w' : World} {b o : Nat} {xs : List Value} (h : w.rangeAt b o xs) (hm : Mod S w w') (hs : ¬ S b) : w'.rangeAt b o xs := fun j v hv => by
  have := h j v hv
  rw [← this]
  exact hm.cell (p := ⟨b, o + j, none⟩) (OP.cell_lt this) hs
theorem add_info {xs : List Value} (h : xs.length = 36) : (Try.prog.info? 32).map (·.size) = some xs.length := by
  rw [h]; kernel_rfl

theorem wpStill_load_mid {P : Program} {ops : Array Oper} {w : World} {Q : Act → Prop} {a : Act} {op : Oper} {rest : List Oper} (hw : Region.wanted op (yielded ops a.tmps) = true) (ty : TypeId) (x : Operand) (ho : op.op = .load ty x)
    (b o : Nat) (hx : a.eval x = .pointer (some ⟨b, o, none⟩)) (cs : List Value) (d : TypeDesc) (hc : w.rangeAt b o cs) (hu : P.underlying ty = some d) (hd : d.isRow = true) (hi : (P.info? ty).map (·.size) = some cs.length)
    (h : wpStill P ops w Q rest (a.put op.dst (.agg cs.toArray))) : wpStill P ops w Q (op :: rest) a := by
  refine wpStill_step (fun K hK => ?_)
  rw [if_pos hw]
  unfold Oper.still execOp
  simp only [ho, hx, Sem.run_bind, run_loadAt_mid w b o ty cs d hc hu hd hi, Result.andThen_ok, Sem.run_pure]
  exact ⟨rfl, hK _ h⟩

def PutsInv (W : World) (g n : Nat) (F : Nat → AddI) (pre : List UInt8) (i : Value) (wr : World) : Prop :=
  ∃ (k : Nat) (A1 : Option Addr), k ≤ n ∧ i = .int .i64 (k : Int) ∧ EncR wr g A1 (pre ++ allB F k) ∧ (∀ b, atA A1 b → W.heap.size ≤ b) ∧ Mod no W wr

def BacksInv (W : World) (g g2 gb2 n : Nat) (A1 : Option Addr) (F : Nat → AddI) (bs : List UInt8) (i : Value) (wr : World) : Prop :=
  ∃ (k : Nat), k ≤ n ∧ i = .int .i64 (k : Int) ∧ EncR wr g A1 bs ∧ LiveAt wr g2 gb2 bs (1 + (allB F k).length) ∧ Mod no W wr ∧ (bs ≠ [] → gb2 < wr.heap.size)

set_option maxRecDepth 100000 in
set_option maxHeartbeats 4000000 in
theorem back_law {W : World} {A : Option Addr} {n c : Nat} {E : Nat → List Value} {F : Nat → AddI} (hE : Elems W A n 36 E) (hn : n ≤ 1048576)
    (hF : ∀ i, i < n → AddAt W (E i) (F i) ∧ (F i).ok ∧ (F i).S.length + (F i).B.length ≤ 1048576) (hall : (allB F n).length ≤ 60000000) :
    Calls Try.prog 9 #[.slice A n c] W fun e w' => e = .returned (.bool true) ∧ Mod no W w' := by
  have HE := Lib.hid hE
  have HF := Lib.hid hF
  have HALL := Lib.hid hall
  clear hE hF hall
  go_enter Try.func9, Try.ntmps9
  go_wp2_with fail
  refine (raw_add (A := none) (bs := []) [7] rfl ?_ (by simp) ?_ ?_).mono ?_
  · exact .inr ⟨rfl, none, 0, .pointer none, (Blk.new W _ _).alloc _, RdT.nil_ _ _, .inl rfl⟩
  · have h := Rds.one_new (W.alloc (.cells #[.slice none 0 0, .pointer none] 26)) (.int .u8 7) 5
    rw [World.size_alloc] at h
    exact h
  · intro _ ad e
    injection e with e
    subst e
    simp
  rintro e w1 ⟨rfl, A1, hA1, E1, M1⟩
  have h0 : EncR w1 W.heap.size A1 ([7] ++ allB F 0) := .inl (by simpa [allB_0] using E1)
  have hge : ∀ b, atA A1 b → W.heap.size ≤ b := by
    intro b hb
    rcases hA1 with rfl | ⟨b', hb', rfl⟩
    · cases hb
    · injection hb with hb; injection hb with hb; simp at hb'; omega
  have M0 : Mod no W w1 := (((Mod.refl no W).alloc _).alloc _).trans M1 (fun k hk c => by
    rcases c with c | c
    · omega
    · cases c)
  have H0 := Lib.hid (And.intro h0 (And.intro hge M0))
  clear E1 M1 hA1 h0 hge M0
  go_wp2_with fail
  go_loopw [4] (PutsInv W W.heap.size n F [7]) (fun i _ => n - (intOf i).toNat)
  case atStart => exact ⟨0, A1, Nat.zero_le _, rfl, H0.out.1, H0.out.2.1, H0.out.2.2⟩
  case round =>
    obtain ⟨k, A2, hk, rfl, hR, hge, M⟩ := hrel
    have HR := Lib.hid hR
    have HG := Lib.hid hge
    have HM := Lib.hid M
    clear hR hge M
    by_cases hlt : k < n
    · obtain ⟨b2, o2, rfl, hcells⟩ := HE.out (by omega)
      have hel := hcells k hlt
      obtain ⟨⟨A3, c3, hEk, hrd⟩, hok, hsz⟩ := HF.out k hlt
      have hrg := add_range (n := n) hel
      have hlen := hel.1
      have hb2 : b2 < W.heap.size := by
        have := hrg 0 _ (by rw [hEk]; rfl)
        exact OP.cell_lt this
      have hrg := range_mod hrg HM.out (fun c => c)
      have hinf := add_info hlen
      have HRG := Lib.hid hrg
      have HIN := Lib.hid hinf
      have HEK := Lib.hid hEk
      clear hcells hel hrg hinf hlen
      go_wp2_with (refine wpList_load_mid rfl 32 (.tmp 19) rfl b2 (o2 + k * 36) rfl (E k) _ HRG.out Try.underlying32 rfl HIN.out ?_)
      refine (put_any (F k).kind (F k).N (F k).S A3 (F k).B.length c3 (F k).K (F k).B HR.out hok.1 hok.2 rfl (by have := HALL.out; have := allB_le F hk; simp; omega) (OP.rds_mod hrd HM.out) ?_).mono ?_
      · intro hp ad e
        subst e
        obtain ⟨ad', e', hc⟩ := hrd.2 hp
        injection e' with e'
        subst e'
        have h1 := OP.cell_lt (hc 0 _ (bvs_get _ 0 hp))
        have h2 : (ad.add 0).block = ad.block := by simp [Addr.add]
        rw [h2] at h1
        exact ⟨by omega, fun c => by have := HG.out _ (show atA A2 ad.block from c); omega⟩
      rintro e w2 ⟨rfl, A4, nA, R4, M4⟩
      have HR4 := Lib.hid R4
      have HM4 := Lib.hid M4
      have HNA := Lib.hid nA
      clear R4 M4 nA
      go_wp2_with fail
      go_roundw
      case rel =>
        have hs := HM.out.size
        refine ⟨k + 1, A4, hlt, by go_num, ?_, ?_, HM.out.trans HM4.out (fun b hb c => ?_)⟩
        · rw [allB_succ, ← List.append_assoc]; exact HR4.out
        · intro b hb
          rcases HNA.out with rfl | ⟨b', hb', rfl⟩
          · exact HG.out b hb
          · injection hb with hb; injection hb with hb; omega
        · rcases c with c | c
          · omega
          · have := HG.out b c; omega
      case measure => simp [intOf]; omega
    · obtain rfl : k = n := by omega
      obtain ⟨bs, hbs⟩ : ∃ bs, bs = [7] ++ allB F k := ⟨_, rfl⟩
      rw [← hbs] at HR
      have hbl : bs.length = 1 + (allB F k).length := by rw [hbs]; simp; omega
      have hbmax : bs.length ≤ 70000000 := by have := HALL.out; omega
      have hdrop1 : bs.drop 0 = [7] ++ allB F k := by rw [hbs]; rfl
      have HBS := Lib.hid (And.intro hbs (And.intro hbl (And.intro hbmax hdrop1)))
      have hraw : rawA bs (.live 0) 1 = (.live 1, [7]) := by
        have := rawA_back hdrop1
        simpa using this
      have HRAW := Lib.hid hraw
      clear hbs hbl hbmax hdrop1 hraw hk
      go_wp2_with fail
      refine (bytes_any HR.out (by have := HBS.out.2.2.1; omega)).mono ?_
      rintro e w2 ⟨A4, c4, rfl, hown, M2⟩
      have HO := Lib.hid hown
      have HM2 := Lib.hid M2
      clear hown M2
      go_wp2_with fail
      refine (open_any (RdT.of_own HO.out) (by have := HBS.out.2.2.1; omega)).mono ?_
      rintro e w3 ⟨g2, gb2, rfl, hg2, hgb2, LV, M3⟩
      have HV := Lib.hid LV
      have HM3 := Lib.hid M3
      have HG2 := Lib.hid (And.intro hg2 hgb2)
      clear LV M3 hg2 hgb2
      go_wp2_with fail
      refine (raw_any (s := .live 0) 1 HV.out (by have := HBS.out.2.2.1; omega)).mono ?_
      rw [HRAW.out]
      simp only [List.length_cons, List.length_nil, Nat.zero_add]
      rintro e w4 ⟨A5, c5, rfl, hown5, hc5, D5, M5, -⟩
      obtain ⟨b5, rfl, q0⟩ : ∃ b5, A5 = some ⟨b5, 0, none⟩ ∧ w4.cell? ⟨b5, 0, none⟩ = some (.int .u8 7) := by
        rcases hown5.2 with ⟨_, h0⟩ | ⟨g', cap, cur, hv, _, hb, _, _, _, h4⟩
        · cases h0
        · injection hv with hv
          refine ⟨g', hv, ?_⟩
          have hb' : Blk w4 g' 5 cur := hb
          rw [hb'.cell]
          have := congrArg (·[0]?) h4
          simpa [bvs, bv] using this
      have HD5 := Lib.hid D5
      have HM5 := Lib.hid M5
      have s1 := HM2.out.size
      have s2 := HM3.out.size
      have sW := HM.out.size
      obtain ⟨ga, gba⟩ := HG2.out
      have m4 : Mod no W w4 := (HM.out.and_then (HM2.out.and_then HM3.out)).trans M5 (fun b hb c => by simp only [one] at c; omega)
      have HM4 := Lib.hid m4
      have r4 : EncR w4 W.heap.size A2 bs := by
        obtain ⟨cs', hgb⟩ := HR.out.blk
        refine ((HR.out.mod_no HM2.out).mod_no HM3.out).mod M5 (fun c => ?_) (fun b hb c => ?_) (fun hA b cs hb c => ?_)
        · have := hgb.lt; simp only [one] at c; omega
        · obtain ⟨cur, hb'⟩ := HR.out.row b hb
          have := hb'.lt
          simp only [one] at c; omega
        · obtain ⟨ct, hct⟩ := HV.out |> fun h => (show ∃ ct, Blk w3 g2 76 ct from by obtain ⟨A9, c9, hb9, _⟩ := h; exact ⟨_, hb9⟩)
          simp only [one] at c; subst c
          rcases hb with hb | hb
          · exact absurd (hb.same hct).1 (by decide)
          · exact absurd (hb.same hct).1 (by decide)
      have HR4 := Lib.hid r4
      have g2lt : g2 < w3.heap.size := by obtain ⟨A9, c9, hb9, _⟩ := HV.out; exact hb9.lt
      have gb2lt : bs ≠ [] → gb2 < w3.heap.size := by obtain ⟨A9, c9, hb9, _, _, h9, _⟩ := HV.out; intro hne; obtain ⟨o9, cs9, _, h8, _⟩ := h9 hne; exact h8.lt
      have hnear : ∀ b, atA A2 b → b ≠ g2 := fun b hb => by
        obtain ⟨cur, hb'⟩ := HR.out.row b hb
        have := hb'.lt
        omega
      have hgg : W.heap.size ≠ g2 := by
        obtain ⟨cs', hgb⟩ := HR.out.blk
        have := hgb.lt
        omega
      have s5 := M5.size
      have HX := Lib.hid (And.intro hnear (And.intro hgg (And.intro (show W.heap.size ≤ g2 by omega) (show bs ≠ [] → gb2 < w4.heap.size from fun hne => by have := gb2lt hne; omega))))
      clear M5 D5 hown5 hc5 s1 s2 sW ga gba m4 r4 g2lt gb2lt hnear hgg s5
      go_wp2_with fail
      go_loopw [7] (BacksInv W W.heap.size g2 gb2 k A2 F bs) (fun i _ => k - (intOf i).toNat)
      case atStart => exact ⟨0, Nat.zero_le _, rfl, HR4.out, (show LiveAt w4 g2 gb2 bs (1 + (allB F 0).length) from HD5.out), HM4.out, HX.out.2.2.2⟩
      case round =>
        obtain ⟨k2, hk2, rfl, hR2, hD, hM2, hgb⟩ := hrel
        have HR2 := Lib.hid hR2
        have HD := Lib.hid hD
        have HMM := Lib.hid hM2
        have HGB := Lib.hid hgb
        clear hR2 hD hM2 hgb
        by_cases hlt2 : k2 < k
        · obtain ⟨b2, o2, rfl, hcells⟩ := HE.out (by omega)
          have hel := hcells k2 hlt2
          obtain ⟨⟨A3, c3, hEk, hrd⟩, hok, hsz⟩ := HF.out k2 hlt2
          have hrgW := add_range (n := k) hel
          have hlen := hel.1
          have hb2 : b2 < W.heap.size := by
            have := hrgW 0 _ (by rw [hEk]; rfl)
            exact OP.cell_lt this
          have hrg := range_mod hrgW HMM.out (fun c => c)
          have hinf := add_info hlen
          obtain ⟨x1, x2, x3, x4⟩ := HX.out
          obtain ⟨rest, hsplit⟩ := allB_split F hlt2
          obtain ⟨y1, y2, y3, y4⟩ := HBS.out
          have hdrop : bs.drop (1 + (allB F k2).length) = (F k2).bytes ++ rest := by
            rw [y1, hsplit, ← List.append_assoc]
            exact List.drop_left' (by simp; omega)
          have htk := take_back (F k2) hok (by omega) (by omega) hdrop
          have HTK : ∀ W', Mod no wr W' → Calls Try.prog 25 #[.pointer (some ⟨g2, 0, none⟩), takeV (F k2).kind (backM (F k2)) (backN (F k2))] W' fun e w'' => e = .returned (gotV (sameN (F k2)) (sameB (F k2))) ∧ LiveAt w'' g2 gb2 bs (1 + (allB F (k2 + 1)).length) ∧ Mod (one g2) W' w'' := fun W' m' => by
            refine (take_any (F k2).kind (backM (F k2)) (backN (F k2)) (s := .live (1 + (allB F k2).length)) (LiveAt.mod HD.out m' (fun c => c) (fun _ c => c)) (by omega) (fun hne => by have := HGB.out hne; have := m'.size; omega) ?_ ?_ ?_).mono ?_
            · unfold backM; have := hok.1; split <;> omega
            · unfold backN; repeat' split
              all_goals omega
            · unfold backN; repeat' split
              all_goals omega
            · rw [htk]
              rintro e w'' ⟨h1, h2, h3⟩
              refine ⟨h1, ?_, h3⟩
              rw [allB_succ, List.length_append, ← Nat.add_assoc]
              exact h2
          have HSM := fun (W' : World) (m' : Mod no W W') => Lib.hid (same_any (F k2) hok A3 c3 (OP.rds_mod hrd m'))
          have hne := fun W => got_true W (sameN (F k2)) (sameB (F k2)).toArray
          obtain ⟨Nn, hNn⟩ : ∃ Nn, Nn = sameN (F k2) := ⟨_, rfl⟩
          obtain ⟨Bb, hBb⟩ : ∃ Bb, Bb = sameB (F k2) := ⟨_, rfl⟩
          rw [← hNn, ← hBb] at HTK HSM hne
          have HTK := Lib.hid HTK
          have HRG := Lib.hid hrg
          have HRW := Lib.hid hrgW
          have HIN := Lib.hid hinf
          have HY := Lib.hid (And.intro y1 (And.intro x1 (And.intro x2 (And.intro x3 x4))))
          clear hcells hel hrgW hrg hinf hlen hsplit y1 y2 y3 y4 hdrop htk hNn hBb x1 x2 x3 x4 hsz hrd
          go_wp2_with (first
            | (with_reducible show wpList _ _ _ _ _ _; refine wpList_load_mid rfl 32 (.tmp 44) rfl b2 (o2 + k2 * 36) rfl (E k2) _ HRG.out Try.underlying32 rfl HIN.out ?_)
            | (go_at_call 34; refine (back_any (F k2) A3 c3).mono ?_; rintro e w6 ⟨rfl, M6⟩; have HM6 := Lib.hid M6; clear M6)
            | (go_at_call 25; refine (HTK.out _ HM6.out).mono ?_; rintro e w7 ⟨rfl, D7, M7⟩; simp only [gotV]; have HD7 := Lib.hid D7; have HM7 := Lib.hid M7; clear D7 M7))
          have m7 : Mod no W w7 := (HMM.out.and_then HM6.out).trans HM7.out (fun b hb c => by have := HY.out.2.2.2.1; simp only [one] at c; omega)
          have m8 : Mod no W (w7.alloc (.cells #[.int .u64 (Nn : Int), .string ⟨Bb.toArray⟩] 66)) := m7.alloc _
          have q8 : Mod no w7 (w7.alloc (.cells #[.int .u64 (Nn : Int), .string ⟨Bb.toArray⟩] 66)) := (Mod.refl no w7).alloc _
          have hb8 := Blk.new w7 66 #[.int .u64 (Nn : Int), .string ⟨Bb.toArray⟩]
          generalize w7.alloc (.cells #[.int .u64 (Nn : Int), .string ⟨Bb.toArray⟩] 66) = w8 at *
          have z0 := hb8.cell 0
          have z1 := hb8.cell 1
          simp at z0 z1
          have HM8 := Lib.hid m8
          have HQ8 := Lib.hid q8
          clear m7 m8 q8 hb8
          go_still_tail 5, (by kernel_rfl)
          refine wpStill_load_mid rfl 32 (.tmp 50) rfl b2 (o2 + k2 * 36) rfl (E k2) _ (range_mod HRW.out HM8.out.drew (fun c => c)) Try.underlying32 rfl HIN.out ?_
          repeat still_step
          refine wpStill_nil ?_
          change wpList _ _ _ _ _ w8.drew
          have HM8 := Lib.hid HM8.out.drew
          have HQ8 := Lib.hid HQ8.out.drew
          clear z0 z1
          generalize w8.drew = w8 at *
          go_wp2_with (go_at_call 35; refine (HSM w8 HM8.out).out.mono ?_; rintro e w9 ⟨rfl, M9⟩; have HM9 := Lib.hid M9; clear M9)
          obtain ⟨y1, x1, x2, x3, x4⟩ := HY.out
          have z1 := HM6.out.size
          have z2 := HM7.out.size
          have z3 := HQ8.out.size
          have z4 := HM9.out.size
          have mw6 : Mod no wr w6 := HM6.out
          have hR7 : EncR w7 W.heap.size A2 bs := by
            refine (HR2.out.mod_no HM6.out).mod HM7.out (fun c => ?_) (fun b hb c => ?_) (fun hA b cs hb c => ?_)
            · simp only [one] at c; omega
            · simp only [one] at c; exact x1 b hb c
            · obtain ⟨ct, hct⟩ : ∃ ct, Blk w6 g2 76 ct := by
                obtain ⟨A9, c9, hb9, _⟩ := HD.out
                exact ⟨_, hb9.mod HM6.out (fun c => c)⟩
              simp only [one] at c; subst c
              rcases hb with hb | hb
              · exact absurd (hb.same hct).1 (by decide)
              · exact absurd (hb.same hct).1 (by decide)
          refine ⟨⟨k2 + 1, hlt2, by go_num, (hR7.mod_no HQ8.out).mod_no HM9.out, ?_, HM8.out.and_then HM9.out, fun hne => by have := HGB.out hne; omega⟩, ?_⟩
          · exact (HD7.out.mod HQ8.out (fun c => c) (fun _ c => c)).mod HM9.out (fun c => c) (fun _ c => c)
          · simp [intOf]; omega
        · obtain rfl : k2 = k := by omega
          obtain ⟨y1, y2, y3, y4⟩ := HBS.out
          have hend : endA bs (.live (1 + (allB F k2).length)) = none := by simp only [endA]; rw [if_neg (by omega)]
          have hleft : leftA bs (.live (1 + (allB F k2).length)) = 0 := by simp only [leftA]; omega
          have hplace : placeA (.live (1 + (allB F k2).length)) = bs.length := by simp only [placeA]; omega
          have TE := fun q => end_any (s := .live (1 + (allB F k2).length)) (LiveAt.mod (S := no) HD.out ((Mod.refl no wr).drewN q) (fun c => c) (fun _ c => c))
          have TL := fun q => left_any (s := .live (1 + (allB F k2).length)) (LiveAt.mod (S := no) HD.out ((Mod.refl no wr).drewN q) (fun c => c) (fun _ c => c))
          have TA := fun q => at_any (s := .live (1 + (allB F k2).length)) (LiveAt.mod (S := no) HD.out ((Mod.refl no wr).drewN q) (fun c => c) (fun _ c => c))
          rw [hend] at TE
          rw [hleft] at TL
          rw [hplace] at TA
          have TE := Lib.hid TE
          have TL := Lib.hid TL
          have TA := Lib.hid TA
          have TN := fun q => Lib.hid (len_any (HR2.out.mod_no ((Mod.refl no wr).drewN q)))
          clear y1 y2 y3 y4 hend hleft hplace
          unfold endV at TE
          go_wp2_with (first
            | (go_at_call 24; refine (TE.out 0).mono ?_; rintro e w5 ⟨rfl, q1, rfl⟩)
            | (go_at_call 30; refine (TL.out _).mono ?_; rintro e w5 ⟨rfl, q2, rfl⟩)
            | (go_at_call 32; refine (TA.out _).mono ?_; rintro e w5 ⟨rfl, rfl⟩)
            | (go_at_call 13; refine (TN _).out.mono ?_; rintro e w5 ⟨rfl, rfl⟩))
          go_ret
          exact ⟨rfl, HMM.out.drewN _⟩

end Go.Proofs.Ytpfkcejndjnbhaa.BK
