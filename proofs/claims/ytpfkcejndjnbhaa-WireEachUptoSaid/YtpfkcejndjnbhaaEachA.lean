/- The law WireEach: what is asked, and Each of it; Each of nothing. -/
import Derived.Test.YtpfkcejndjnbhaaEachM
namespace Go.Proofs.Ytpfkcejndjnbhaa.EC
open Go.RowKit Mem WM
open Go.Proofs.Ytpfkcejndjnbhaa.WD (RdT RdB u8_info own_mod LiveAt DeadAt DecAt rowS conv_string raw_any over_live over_dead var_go wpList_put1 rowS_dec run_eql_func_nil)
open Go.Proofs.Ytpfkcejndjnbhaa.RD (RLive RAt)
set_option linter.unusedVariables false
set_option linter.unusedSimpArgs false

def two (g k : Nat) : Nat → Prop := fun b => b = g ∨ b = k

/-- The counter and the boxed row of sizes. -/
structure Asks (w : World) (kc kz : Nat) (A : Option Addr) (c : Nat) (Z : List UInt8) (calls : Nat) : Prop where
  k : Blk w kc 3 #[.int .i64 (calls : Int)]
  z : Blk w kz 23 #[.slice A Z.length c]
  r : Rds w 1 A Z.length (bvs Z)

theorem dec_int {w w' : World} {g gb kc : Nat} {bs : List UInt8} {s : St} {cs : Array Value} (h : DecAt w g gb bs s) (hk : Blk w kc 3 cs) (hm : Mod (one kc) w w') : DecAt w' g gb bs s := by
  obtain ⟨ct, hct⟩ := h.typ
  have hgk : ¬ one kc g := fun e => by
    have e : g = kc := e
    subst e; exact absurd (hct.same hk).1 (by decide)
  cases s with
  | live p =>
    have h : LiveAt w g gb bs p := h
    refine LiveAt.mod h hm hgk fun hne e => ?_
    obtain ⟨A, c, _, _, _, hb, _⟩ := h
    obtain ⟨o, cs', _, hb', _⟩ := hb hne
    have e : gb = kc := e
    subst e; exact absurd (hb'.same hk).1 (by decide)
  | dead a e =>
    refine DeadAt.mod (show DeadAt w g bs a e from h) hm hgk fun k cs' hb' e => ?_
    have e : k = kc := e
    subst e; exact absurd (hb'.same hk).1 (by decide)

set_option maxRecDepth 100000 in
set_option maxHeartbeats 1000000 in
theorem ask_any {W w : World} {g gb kc kz : Nat} {A : Option Addr} {c calls : Nat} {bs Z : List UInt8} {s : St} (h : DecAt w g gb bs s) (hk : Blk w kc 3 #[.int .i64 (calls : Int)]) (hz : Blk w kz 23 #[.slice A Z.length c])
    (hr : Rds W 1 A Z.length (bvs Z)) (hm : Mod no W w) (hkc : W.heap.size ≤ kc) (hb : bs.length ≤ 140737488355328) (hc : calls < 1000000000) (hZ : Z.length ≤ 140737488355328) :
    Calls Try.prog 18 #[.pointer (some ⟨g, 0, none⟩), .pointer (some ⟨kc, 0, none⟩), .pointer (some ⟨kz, 0, none⟩)] w fun e w' =>
      e = .returned (.string ⟨(rawA bs s (szA Z calls : Int)).2.toArray⟩) ∧ DecAt w' g gb bs (rawA bs s (szA Z calls : Int)).1 ∧ Blk w' kc 3 #[.int .i64 ((calls + 1 : Nat) : Int)] ∧ Mod (two g kc) w w' := by
  have hkl := hk.lt
  have k0 := hk.cell 0
  have z0 := hz.cell 0
  have kf := hk.free 0
  simp at k0 z0
  have hg := h.typ
  obtain ⟨ct, hct⟩ := hg
  have hgk : g ≠ kc := fun e => by subst e; exact absurd (hct.same hk).1 (by decide)
  have H := Lib.hid h
  have HK := Lib.hid hk
  have HB := Lib.hid hb
  have m1 : Mod (one kc) w (w.setCell ⟨kc, 0, none⟩ (.int .i64 ((calls : Int) + 1))) := (Mod.refl (one kc) w).set (p := ⟨kc, 0, none⟩) (fun _ => rfl) _
  have hw64 : wrap64 ((calls : Int) + 1) = (calls : Int) + 1 := IntWalk.wrap64_in _ (by omega)
  by_cases hlt : calls < Z.length
  · obtain ⟨ad, rfl, hcells⟩ := hr.2 (by omega)
    have ce := hcells calls _ (bvs_get Z calls hlt)
    have hsz := szA_in hlt
    obtain ⟨x, hx⟩ : ∃ x, x = Z[calls] := ⟨_, rfl⟩
    rw [← hx] at ce hsz
    have hcl : (calls : Int) < (Z.length : Int) := by omega
    have hc0 : (0 : Int) ≤ (calls : Int) := by omega
    have ce := (hm.cell (OP.cell_lt ce) (fun c => c)).trans ce
    have HS := Lib.hid (show (szA Z calls : Int) = (x.toNat : Int) % 4 by rw [hsz]; omega)
    clear hcells hsz hx h hk hz hct hr
    go_enter Try.func18, Try.ntmps18
    go_wp2_with fail
    refine (raw_any _ (dec_int H.out HK.out m1) HB.out).mono ?_
    rintro e w3 ⟨A3, c3, rfl, hown, _, D3, M3, _⟩
    have hcv := conv_string (RdT.of_own hown) _ c3 rfl
    have HD3 := Lib.hid D3
    have HM3 := Lib.hid M3
    clear hown D3 M3
    go_wp2_with fail
    go_ret
    rw [HS.out]
    refine ⟨rfl, HD3.out, ?_, ?_⟩
    · have := (HK.out.put 0 (.int .i64 ((calls : Int) + 1))).mod HM3.out (fun c => hgk c.symm)
      simpa using this
    · exact (m1.mono (S' := two g kc) (fun _ _ c => .inr c)).and_then (HM3.out.mono (S' := two g kc) (fun _ _ c => .inl c))
  · have hsz := szA_out hlt
    have hcl : ¬ (calls : Int) < (Z.length : Int) := by omega
    have HS := Lib.hid (show (szA Z calls : Int) = 1 by rw [hsz]; rfl)
    clear hsz h hk hz hct hr hlt
    go_enter Try.func18, Try.ntmps18
    go_wp2_with fail
    refine (raw_any _ (dec_int H.out HK.out m1) HB.out).mono ?_
    rintro e w3 ⟨A3, c3, rfl, hown, _, D3, M3, _⟩
    have hcv := conv_string (RdT.of_own hown) _ c3 rfl
    have HD3 := Lib.hid D3
    have HM3 := Lib.hid M3
    clear hown D3 M3
    go_wp2_with fail
    go_ret
    rw [HS.out]
    refine ⟨rfl, HD3.out, ?_, ?_⟩
    · have := (HK.out.put 0 (.int .i64 ((calls : Int) + 1))).mod HM3.out (fun c => hgk c.symm)
      simpa using this
    · exact (m1.mono (S' := two g kc) (fun _ _ c => .inr c)).and_then (HM3.out.mono (S' := two g kc) (fun _ _ c => .inl c))

theorem tx_info : (Try.prog.info? 9).map (fun i => (i.zero, i.size, i.bytes)) = some (some (.string ⟨#[]⟩), 1, 16) := by kernel_rfl

/-- What the loop of Each carries. -/
def EachI (w : World) (g gb kc kz : Nat) (A : Option Addr) (c : Nat) (bs Z : List UInt8) (s0 : St) (N : Nat) (v r : Value) (wr : World) : Prop :=
  ∃ k m : Nat, k + m = N ∧ r = .int .u64 (m : Int) ∧ wr.ownsRow w.heap.size 9 1 v k ((eachE bs Z s0 k).2.map tx) ∧ DecAt wr g gb bs (eachE bs Z s0 k).1 ∧ Blk wr kc 3 #[.int .i64 (k : Int)] ∧ Mod (two g kc) w wr ∧ ∀ j, j < k → ∃ p, (eachE bs Z s0 j).1 = .live p

set_option maxRecDepth 100000 in
set_option maxHeartbeats 1000000 in
theorem each_tx {W w : World} {g gb kc kz p : Nat} {A : Option Addr} {c : Nat} {bs Z : List UInt8} (n : Int) (h : LiveAt w g gb bs p) (hk : Blk w kc 3 #[.int .i64 0]) (hz : Blk w kz 23 #[.slice A Z.length c])
    (hr : Rds W 1 A Z.length (bvs Z)) (hm : Mod no W w) (hg : W.heap.size ≤ g) (hkc : W.heap.size ≤ kc) (hgb : bs ≠ [] → gb < w.heap.size) (hb : bs.length ≤ 1048576) (hZ : Z.length ≤ 1048576) (hn1 : -9223372036854775808 ≤ n) (hn2 : n ≤ 9223372036854775807) :
    Calls Try.prog 17 #[.pointer (some ⟨g, 0, none⟩), .int .i64 n, .func (.func 18) #[] #[.pointer (some ⟨kc, 0, none⟩), .pointer (some ⟨kz, 0, none⟩)]] w fun e w' =>
      ∃ (s0 : St) (N K : Nat) (A' : Option Addr) (c' : Nat), varA bs (.live p) n.toNat = (s0, N) ∧ Ends bs Z s0 N K ∧ e = .returned (.slice A' (eachR bs Z s0 K).length c') ∧ w'.ownsRow w.heap.size 9 1 (.slice A' (eachR bs Z s0 K).length c') (eachR bs Z s0 K).length ((eachR bs Z s0 K).map tx) ∧
        DecAt w' g gb bs (eachE bs Z s0 K).1 ∧ Blk w' kc 3 #[.int .i64 (K : Int)] ∧ Mod (two g kc) w w' := by
  have hgl : g < w.heap.size := by obtain ⟨_, _, hb9, _⟩ := h; exact hb9.lt
  have hkl := hk.lt
  have hp : p ≤ bs.length := by obtain ⟨_, _, _, _, _, _, h4⟩ := h; exact h4
  have hgk : g ≠ kc := by
    obtain ⟨_, _, hb9, _⟩ := h
    intro e; subst e; exact absurd (hb9.same hk).1 (by decide)
  have hzt : ¬ two g kc kz := by
    obtain ⟨_, _, hb9, _⟩ := h
    intro e
    rcases e with e | e
    · subst e; exact absurd (hz.same hb9).1 (by decide)
    · subst e; exact absurd (hz.same hk).1 (by decide)
  have heq := fun (W : World) => run_eql_func_nil (P := Try.prog) W 48 _ _ _ (.func 18) #[] #[.pointer (some ⟨kc, 0, none⟩), .pointer (some ⟨kz, 0, none⟩)] Try.underlying48
  have H := Lib.hid h
  have HK := Lib.hid hk
  have HZ := Lib.hid hz
  have HR := Lib.hid (And.intro hr hm)
  have HX := Lib.hid (And.intro hg (And.intro hkc (And.intro hb (And.intro hZ (And.intro hgl (And.intro hkl hp))))))
  have HT := Lib.hid (And.intro hgb (And.intro hgk hzt))
  clear h hk hz hr hm hg hkc hb hZ hgl hkl hgb hgk hzt hp
  by_cases hneg : n ≤ 0
  all_goals
    go_enter Try.func17, Try.ntmps17
    go_wp2_with (go_at_call 51; refine (over_live H.out).mono ?_; rintro e w' ⟨rfl, rfl⟩)
    refine (var_go n.toNat _ H.out (by omega) (by omega) (by omega)).mono ?_
    rintro e w1 ⟨s0, N, HV, rfl, D1, M1⟩
    have hI : EachI w g gb kc kz A c bs Z s0 N (.slice none 0 0) (.int .u64 (N : Int)) w1 :=
      ⟨0, N, by omega, rfl, ⟨rfl, .inl ⟨rfl, rfl⟩⟩, D1, HK.out.mod M1 (fun e => HT.out.2.1 e.symm), M1.mono (fun _ _ c => .inl c), fun j hj => by omega⟩
    have hfit : Fit bs s0 := D1.fit
    have hN64 : N < 18446744073709551616 := by
      cases s0 with
      | dead a c => rw [WD.varGo_dead bs p _ _ _ _ _ _ _ HV.out]; decide
      | live q => exact (varGo_10 bs p n.toNat q N (by have := HX.out; omega) HV.out).2.2.2
    clear D1 M1
    have HI := Lib.hid hI
    have HF := Lib.hid (And.intro hfit hN64)
    clear hI hfit hN64 hneg hn1 hn2 heq
    go_wp2_with fail
    go_loopw [7, 8] (EachI w g gb kc kz A c bs Z s0 N) (fun _ r _ => (intOf r).toNat)
    case atStart => exact HI.out
    case round =>
      clear HI
      obtain ⟨k, m, hkm, rfl, hown, D, hkb, M, hlv⟩ := hrel
      obtain ⟨A1, c1, rfl⟩ := own_form hown
      have HO := Lib.hid hown
      have HKM := Lib.hid hkm
      have HM := Lib.hid M
      have HKB := Lib.hid hkb
      have HLV := Lib.hid hlv
      have hm64 : (m : Int) < 18446744073709551616 := by have := HF.out.2; omega
      clear hown hkm M hkb hlv
      cases hs : (eachE bs Z s0 k).1 with
      | dead a e =>
        rw [hs] at D
        have HD := Lib.hid D
        have HS := Lib.hid hs
        clear D hs
        have hfin : Ends bs Z s0 N k := ⟨by have := HKM.out; omega, .inr ⟨a, e, HS.out⟩, HLV.out⟩
        have HFIN := Lib.hid hfin
        clear hfin
        by_cases hm0 : m = 0
        · subst hm0
          clear hm64
          go_wp2_with (go_at_call 51; refine (over_dead HD.out).mono ?_; rintro e w' ⟨rfl, rfl⟩)
          go_ret
          refine ⟨s0, N, k, none, 0, HV.out, HFIN.out, by rw [eachR_dead HS.out]; rfl, by rw [eachR_dead HS.out]; exact ⟨rfl, .inl ⟨rfl, rfl⟩⟩, by rw [HS.out]; exact HD.out, HKB.out, HM.out⟩
        · have hmp : 0 < m := by omega
          clear hm0 hm64
          go_wp2_with (go_at_call 51; refine (over_dead HD.out).mono ?_; rintro e w' ⟨rfl, rfl⟩)
          go_ret
          refine ⟨s0, N, k, none, 0, HV.out, HFIN.out, by rw [eachR_dead HS.out]; rfl, by rw [eachR_dead HS.out]; exact ⟨rfl, .inl ⟨rfl, rfl⟩⟩, by rw [HS.out]; exact HD.out, HKB.out, HM.out⟩
      | live q =>
        rw [hs] at D
        have HD := Lib.hid (show LiveAt wr g gb bs q from D)
        have HS := Lib.hid hs
        clear D hs
        by_cases hm0 : m = 0
        · subst hm0
          have HFIN := Lib.hid (show Ends bs Z s0 N k from ⟨by have := HKM.out; omega, .inl (by have := HKM.out; omega), HLV.out⟩)
          clear hm64
          go_wp2_with (go_at_call 51; refine (over_live HD.out).mono ?_; rintro e w' ⟨rfl, rfl⟩)
          go_ret
          have hl := eachE_len bs Z s0 k
          refine ⟨s0, N, k, A1, c1, HV.out, HFIN.out, by rw [eachR_live HS.out, hl]; rfl, by rw [eachR_live HS.out, hl]; exact HO.out, by rw [HS.out]; exact HD.out, HKB.out, HM.out⟩
        · have hmp : 0 < m := by omega
          have hbd := eachE_bound HF.out.1 HS.out
          have e1 : IntKind.u64.wrap ((m : Int) - 1) = (m : Int) - 1 := IntWalk.u64_in _ (by omega)
          obtain ⟨i0, hi, hz0, hz1, hz2⟩ := info_parts tx_info
          have HI0 := Lib.hid (And.intro hi (And.intro hz0 (And.intro hz1 hz2)))
          have HBD := Lib.hid (And.intro hbd hmp)
          have HC := Lib.hid (ask_any (W := W) (calls := k) (s := .live q) HD.out HKB.out (HZ.out.mod HM.out HT.out.2.2) HR.out.1 (HR.out.2.trans HM.out fun b hb c => by
            have := HX.out
            rcases c with c | c <;> omega) HX.out.2.1 (by have := HX.out; omega) (by have := HX.out; omega) (by have := HX.out; omega))
          obtain ⟨l, hl⟩ : ∃ l, l = (rawA bs (.live q) (szA Z k : Int)).2 := ⟨_, rfl⟩
          rw [← hl] at HC
          have HLL := Lib.hid hl
          clear hl hi hz0 hz1 hz2 hm0 hm64 hbd
          go_wp2_with (first
            | (go_at_call 51; refine (over_live HD.out).mono ?_; rintro e w' ⟨rfl, rfl⟩)
            | (go_at_call 18; refine HC.out.mono ?_; rintro e w2 ⟨rfl, D2, K2, M2⟩; have HD2 := Lib.hid D2; have HK2 := Lib.hid K2; have HM2 := Lib.hid M2; clear D2 K2 M2)
            | (at_builtin; refine wpList_put1 rfl (.tmp 33) (.tmp 37) 38 rfl w.heap.size 9 i0 (.string ⟨#[]⟩) 16 Try.underlying38 HI0.out.1 HI0.out.2.1 HI0.out.2.2.1 HI0.out.2.2.2 rfl w2 A1 c1 k _ (.string ⟨l.toArray⟩) rfl rfl (own_mod HO.out HM2.out (fun b hb c => by have := HX.out; rcases c with c | c <;> omega)) rfl (by have := HX.out; have := HBD.out; simp only [maxLen]; omega) (by have := HX.out; have := HBD.out; omega) (by have := HM.out.size; have := HM2.out.size; omega) ?_; rintro A2 c2 w3 hown3 hM3; have HO3 := Lib.hid hown3; have HM3 := Lib.hid hM3; clear hown3 hM3))
          go_roundw
          case rel =>
            have x := HX.out
            refine ⟨k + 1, m - 1, by have := HKM.out; have := HBD.out; omega, by congr 1; have := HBD.out; omega, ?_, ?_, ?_, ?_, ?_⟩
            · have : (eachE bs Z s0 (k + 1)).2.map tx = (eachE bs Z s0 k).2.map tx ++ [.string ⟨l.toArray⟩] := by
                rw [HLL.out]
                show ((eachE bs Z s0 k).2 ++ [(rawA bs (eachE bs Z s0 k).1 (szA Z k : Int)).2]).map tx = _
                rw [txs_snoc, HS.out]
                rfl
              rw [this]
              exact HO3.out
            · have D3 := rowS_dec (base := w.heap.size) (e := 9) HD2.out HM3.out (by omega) (HT.out.1) (by decide)
              show DecAt _ g gb bs (rawA bs (eachE bs Z s0 k).1 (szA Z k : Int)).1
              rw [HS.out]
              exact D3
            · exact HK2.out.mod HM3.out (fun c => by have := c.1; omega)
            · exact (HM.out.and_then HM2.out).trans (S' := rowS w2 w.heap.size 9) HM3.out fun b hb c => by have := c.1; omega
            · intro j hj
              rcases Nat.lt_or_ge j k with c | c
              · exact HLV.out j c
              · obtain rfl : j = k := by omega
                exact ⟨q, HS.out⟩
          case measure =>
            have := HBD.out
            show ((m : Int) - 1).toNat < ((m : Int)).toNat
            omega

theorem run_eql_nil_nil {P : Program} (w : World) (t : TypeId) (ps rs : Array TypeId) (v : Bool) (h : P.underlying t = some (.func ps rs v)) : (binOp .eql t .nilFunc .nilFunc).run P w = .ok (.bool true) w := by
  have h1 : ∀ d : Nat, (Op.equalIn (d + 1) t .nilFunc .nilFunc).run P w = .ok true w := fun d => by simp [Op.equalIn, run_underlying h]
  simp only [binOp]
  simp [Op.equal, Op.maxDepth, h1 9999]

set_option maxRecDepth 100000 in
theorem each_nil {w : World} {g gb : Nat} {bs : List UInt8} (n : Int) (h : LiveAt w g gb bs 0) :
    Calls Try.prog 23 #[.pointer (some ⟨g, 0, none⟩), .int .i64 n, .nilFunc] w fun e w' =>
      e = .returned (.slice none 0 0) ∧ DeadAt w' g bs 0 1 ∧ Mod (one g) w w' := by
  have H := Lib.hid h
  obtain ⟨A, c, hb, h1, h2, h3, h4⟩ := h
  have c1 := hb.cell 1
  simp at c1
  have HB := Lib.hid hb
  have heq := fun (W : World) => run_eql_nil_nil (P := Try.prog) W 54 _ _ _ Try.underlying54
  clear h3 hb
  go_enter Try.func23, Try.ntmps23
  go_wp2_with (go_at_call 51; refine (over_live H.out).mono ?_; rintro e w' ⟨rfl, rfl⟩)
  refine (WD.stop_any 0 1 HB.out).mono ?_
  rintro e w' ⟨rfl, k, b1, b2, M⟩
  have HB2 := Lib.hid (And.intro b1 (And.intro b2 M))
  clear b1 b2 M
  go_wp2_with fail
  go_ret
  exact ⟨rfl, ⟨A, c, 0, k, HB2.out.1, HB2.out.2.1, Nat.zero_le _⟩, HB2.out.2.2⟩

end Go.Proofs.Ytpfkcejndjnbhaa.EC
