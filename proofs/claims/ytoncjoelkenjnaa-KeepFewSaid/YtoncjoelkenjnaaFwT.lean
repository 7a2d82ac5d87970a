/- KeepFew: the walk behind the loop for the newest. -/
import Derived.Test.YtoncjoelkenjnaaFwL
import Derived.Deep.DeepCutAuto
namespace Go.Proofs.Ytoncjoelkenjnaa.PL
open Go.RowKit Mem Go.Proofs.Ytoncjoelkenjnaa.Days Go.Proofs.Ytoncjoelkenjnaa.SS
set_option linter.unusedVariables false
set_option linter.unusedSimpArgs false

theorem lg_le {x y b : Int} (h1 : x ≤ b) (h2 : y ≤ b) : lg x y ≤ b := by unfold lg; split <;> assumption
theorem lg_ge (x y : Int) : x ≤ lg x y := by unfold lg; split <;> omega
theorem right_lg {l h d k m y v : Int} (H : rightB l h d k m y v = true) (l' h' d' k' m' y' v' : Int) : rightB (lg l l') (lg h h') (lg d d') (lg k k') (lg m m') (lg y y') (lg v v') = true := by
  have h1 := of_decide_eq_true H
  have := lg_ge l l'; have := lg_ge h h'; have := lg_ge d d'; have := lg_ge k k'; have := lg_ge m m'; have := lg_ge y y'; have := lg_ge v v'
  exact decide_eq_true (by omega)
/-- The last loop. -/
def K3 (w : World) (n : Nat) (v21 : Value) (wr : World) : Prop := ∃ i u : Nat, i ≤ n ∧ v21 = .int .i64 (i : Int) ∧ wr = w.drewN u
noncomputable def fewTailC : Code := sR (sR (sR (sR (sR (sR (sR (sR (sR (sR (sR (sR (sR (Try.f8.body.getD .skip)))))))))))))
set_option maxRecDepth 100000 in
set_option maxHeartbeats 20000000 in
theorem few_tail {w wr : World} {A A1 : Option Addr} {b o i c c1 nw : Nat} {nm : Nat → ByteArray} {tm : Nat → Int} {M : List Int} {l h d k m y v l' h' d' k' m' y' v' : Int}
    (ha : ShA wr A b o i nm tm) (hkv : KV wr A1 i nm (planW tm M l h d k m y v)) (hq : Blk wr w.heap.size 50 #[.int .i16 l, .int .i16 h, .int .i16 d, .int .i16 k, .int .i16 m, .int .i16 y, .int .i64 v]) (hr : Blk wr (w.heap.size + 1) 50 #[.int .i16 l', .int .i16 h', .int .i16 d', .int .i16 k', .int .i16 m', .int .i16 y', .int .i64 v']) (hM : Mod no w wr) (hnw : Nw tm i nw) (hn : i ≤ 300)
    (hsd : Sd (keyT tm) M (ints i)) (hst : i ≤ 4096 ∧ rightB l h d k m y v = true ∧ allIn i tm = true) (hv : (l ≤ 32767 ∧ h ≤ 32767 ∧ d ≤ 32767 ∧ k ≤ 32767 ∧ m ≤ 32767 ∧ y ≤ 32767 ∧ v ≤ 9223372036854775807)) (hv' : (l' ≤ 32767 ∧ h' ≤ 32767 ∧ d' ≤ 32767 ∧ k' ≤ 32767 ∧ m' ≤ 32767 ∧ y' ≤ 32767 ∧ v' ≤ 9223372036854775807))
    (d3 d6 d8 d9 d10 d11 d12 d13 d14 d15 d18 d19 d20 d21 d22 d23 d24 d25 d26 d27 d28 d29 d30 d31 d32 d33 d34 d35 d36 d37 d38 d39 d40 d41 d42 d43 d44 d45 d46 d47 d48 d49 d50 d51 d52 d53 d54 d55 d56 d57 d58 d59 d60 d61 d62 d63 d64 d65 d66 d67 d68 d69 d70 d71 d72 d73 d74 d75 d76 d77 d78 d79 d80 d81 d82 d83 d84 d85 d86 d87 d88 d89 d90 d91 d92 d93 d94 d95 d96 d97 d98 d99 d100 d101 d102 d103 d104 d105 d106 d107 d108 d109 d110 d111 d112 d113 d114 d115 d116 d117 d118 d119 d120 d121 d122 d123 d124 d125 d126 d127 d128 d129 d130 d131 d132 d133 d134 d135 d136 d137 d138 d139 d140 d141 d142 d143 d144 d145 d146 d147 d148 d149 d150 d151 d152 d153 d154 d155 d156 d157 d158 d159 d160 d161 d162 d163 d164 d165 d166 d167 d168 d169 d170 d171 d172 d173 d174 d175 d176 d177 d178 d179 d180 d181 d182 d183 d184 d185 d186 d187 d188 d189 d190 d191 d192 d193 d194 d195 d196 d197 d198 d199 d200 d201 d202 d203 d204 d205 d206 d207 d208 d209 d210 d211 d212 d213 d214 d215 d216 d217 d218 d219 d220 d221 d222 d223 d224 d225 d226 d227 d228 d229 d230 d231 d232 d233 d234 d235 d236 d237 d238 d239 d240 d241 d242 d243 d244 d245 d246 d247 d248 d249 d250 d251 : Value) :
    Code.wp Try.prog fewTailC (bodyPost Try.prog Try.f8 fun e w' => e = .returned (.bool true) ∧ Mod no w w') ⟨List.toArray ((.slice A i c) :: (rv l h d k m y v) :: (rv l' h' d' k' m' y' v') :: d3 :: (.pointer (some ⟨w.heap.size, 0, none⟩)) :: (.pointer (some ⟨w.heap.size + 1, 0, none⟩)) :: d6 :: (.slice A1 i c1) :: d8 :: d9 :: d10 :: d11 :: d12 :: d13 :: d14 :: d15 :: (.int .i64 (nw : Int)) :: (.int .i64 (i : Int)) :: d18 :: d19 :: d20 :: d21 :: d22 :: d23 :: d24 :: d25 :: d26 :: d27 :: d28 :: d29 :: d30 :: d31 :: d32 :: d33 :: d34 :: d35 :: d36 :: d37 :: d38 :: d39 :: d40 :: d41 :: d42 :: d43 :: d44 :: d45 :: d46 :: d47 :: d48 :: d49 :: d50 :: d51 :: d52 :: d53 :: d54 :: d55 :: d56 :: d57 :: d58 :: d59 :: d60 :: d61 :: d62 :: d63 :: d64 :: d65 :: d66 :: d67 :: d68 :: d69 :: d70 :: d71 :: d72 :: d73 :: d74 :: d75 :: d76 :: d77 :: d78 :: d79 :: d80 :: d81 :: d82 :: d83 :: d84 :: d85 :: d86 :: d87 :: d88 :: d89 :: d90 :: d91 :: d92 :: d93 :: d94 :: d95 :: d96 :: d97 :: d98 :: d99 :: d100 :: d101 :: d102 :: d103 :: d104 :: d105 :: d106 :: d107 :: d108 :: d109 :: d110 :: d111 :: d112 :: d113 :: d114 :: d115 :: d116 :: d117 :: d118 :: d119 :: d120 :: d121 :: d122 :: d123 :: d124 :: d125 :: d126 :: d127 :: d128 :: d129 :: d130 :: d131 :: d132 :: d133 :: d134 :: d135 :: d136 :: d137 :: d138 :: d139 :: d140 :: d141 :: d142 :: d143 :: d144 :: d145 :: d146 :: d147 :: d148 :: d149 :: d150 :: d151 :: d152 :: d153 :: d154 :: d155 :: d156 :: d157 :: d158 :: d159 :: d160 :: d161 :: d162 :: d163 :: d164 :: d165 :: d166 :: d167 :: d168 :: d169 :: d170 :: d171 :: d172 :: d173 :: d174 :: d175 :: d176 :: d177 :: d178 :: d179 :: d180 :: d181 :: d182 :: d183 :: d184 :: d185 :: d186 :: d187 :: d188 :: d189 :: d190 :: d191 :: d192 :: d193 :: d194 :: d195 :: d196 :: d197 :: d198 :: d199 :: d200 :: d201 :: d202 :: d203 :: d204 :: d205 :: d206 :: d207 :: d208 :: d209 :: d210 :: d211 :: d212 :: d213 :: d214 :: d215 :: d216 :: d217 :: d218 :: d219 :: d220 :: d221 :: d222 :: d223 :: d224 :: d225 :: d226 :: d227 :: d228 :: d229 :: d230 :: d231 :: d232 :: d233 :: d234 :: d235 :: d236 :: d237 :: d238 :: d239 :: d240 :: d241 :: d242 :: d243 :: d244 :: d245 :: d246 :: d247 :: d248 :: d249 :: d250 :: d251 :: []), []⟩ wr := by
  have HN := Lib.hid hn
  have HSD := Lib.hid hsd
  have HST := Lib.hid hst
  have HV := Lib.hid hv
  have HV' := Lib.hid hv'
  clear hn hsd hst hv hv'
  unfold rv
  conv => arg 2; whnf
  have hn0 := rule_neq0 l h d k m y v
  have q0 := hq.cell 0
  have q1 := hq.cell 1
  have q2 := hq.cell 2
  have q3 := hq.cell 3
  have q4 := hq.cell 4
  have q5 := hq.cell 5
  have q6 := hq.cell 6
  have hqg := rule_guard
  have HX := Lib.hid (And.intro ha (And.intro hkv (And.intro hq (And.intro hnw hM))))
  clear ha hkv hnw
  obtain ⟨any, hany⟩ : ∃ any, any = anyB l h d k m y v := ⟨_, rfl⟩
  rw [← hany] at hn0
  have HANY := Lib.hid hany
  clear hany
  have hr1 := hr
  have r0 := hr1.cell 0
  have r1 := hr1.cell 1
  have r2 := hr1.cell 2
  have r3 := hr1.cell 3
  have r4 := hr1.cell 4
  have r5 := hr1.cell 5
  have r6 := hr1.cell 6
  have HR1 := Lib.hid hr1
  clear hr1 hr hq hM
  go_upto_region 30 with fail
  go_cut [172] (fun s172 wx => s172 = .bool false ∧ ∃ nq, wx = wr.drewN nq)
  case first =>
    have hcases : i = 0 ∨ (0 < i ∧ any = false) ∨ (0 < i ∧ any = true) := by
      rcases Nat.eq_zero_or_pos i with h0 | h0
      · exact .inl h0
      · cases any
        · exact .inr (.inl ⟨h0, rfl⟩)
        · exact .inr (.inr ⟨h0, rfl⟩)
    rcases hcases with h0 | ⟨h0, h1⟩ | ⟨h0, h1⟩
    · have h2 : ¬ (0 : Int) < (i : Int) := by omega
      have h3 : decide ((0 : Int) < (i : Int)) = false := decide_eq_false h2
      clear h0
      go_wp2_with fail
      go_meet
      exact ⟨rfl, 0, rfl⟩
    · have h2 : (0 : Int) < (i : Int) := by omega
      have h3 : decide ((0 : Int) < (i : Int)) = true := decide_eq_true h2
      clear h0
      subst h1
      go_wp2_with fail
      go_meet
      exact ⟨rfl, 0, rfl⟩
    · have hnw : Nw tm i nw := HX.out.2.2.2.1
      have hnwi : nw < i := by have := hnw.2.2; omega
      obtain ⟨g, hA, kb⟩ := HX.out.2.1 h0
      have kw := kb.why hnwi
      obtain ⟨M', hM'⟩ := head_new HSD.out hnwi hnw.1 hnw.2.1
      have hri := of_decide_eq_true HST.out.2.1
      have hne : planW tm M l h d k m y v nw ≠ 0 := by
        have h5 := head_keeps HSD.out (l := l) (h := h) (d := d) (k := k) (m := m) (y := y) (v := v) hM' (anyB_true (HANY.out ▸ h1) hri.1 hri.2.1 hri.2.2.1 hri.2.2.2.1 hri.2.2.2.2.1 hri.2.2.2.2.2.1 hri.2.2.2.2.2.2)
        simpa using h5
      have h2 : (0 : Int) < (i : Int) := by omega
      have h3 : decide ((0 : Int) < (i : Int)) = true := decide_eq_true h2
      have h4 : (nw : Int) < (i : Int) := by omega
      have h5 : ¬ (nw : Int) < 0 := by omega
      obtain ⟨x, hx⟩ : ∃ x, x = planW tm M l h d k m y v nw := ⟨_, rfl⟩
      rw [← hx] at kw hne
      have h6 : (x == 0) = false := by simpa using hne
      subst h1 hA
      clear h0 hnw hnwi kb hM' hri hx hne
      go_wp2_with fail
      go_meet
      exact ⟨rfl, 0, rfl⟩
  case rest =>
    obtain ⟨wA, rfl⟩ : ∃ wA, wA = wc := ⟨_, rfl⟩
    obtain ⟨rfl, nq, hw6'⟩ := hcut
    have hm7 : Mod no wr wA := by rw [hw6']; exact (Mod.refl no wr).drewN nq
    obtain ⟨HXa, HXk, HXq, _, _⟩ := HX.out
    have ha7 := HXa.mod hm7 (fun _ c => c)
    have hk7 := HXk.mod hm7 (fun _ _ c => c)
    have hq7 := HXq.mod hm7 (fun c => c)
    have hr7 := HR1.out.mod hm7 (fun c => c)
    have hm07 : Mod no w wA := (HX.out.2.2.2.2.and_then hm7)
    clear q0 q1 q2 q3 q4 q5 q6 r0 r1 r2 r3 r4 r5 r6 HXa HXk HXq hn0 hqg
    have q0 := hq7.cell 0
    have q1 := hq7.cell 1
    have q2 := hq7.cell 2
    have q3 := hq7.cell 3
    have q4 := hq7.cell 4
    have q5 := hq7.cell 5
    have q6 := hq7.cell 6
    have r0 := hr7.cell 0
    have r1 := hr7.cell 1
    have r2 := hr7.cell 2
    have r3 := hr7.cell 3
    have r4 := hr7.cell 4
    have r5 := hr7.cell 5
    have H7 := Lib.hid (And.intro ha7 (And.intro hk7 (And.intro hr7 hm07)))
    have H7q := Lib.hid hq7
    clear hm7 ha7 hk7 hq7 hr7 hm07 hw6'
    go_upto_region 32 with fail
    go_cut [19] (fun s19 wx => s19 = .pointer (some ⟨wA.heap.size, 0, none⟩) ∧ wx = (wA.alloc (.cells #[.int .i16 (lg l l'), .int .i16 (lg h h'), .int .i16 (lg d d'), .int .i16 (lg k k'), .int .i16 (lg m m'), .int .i16 (lg y y'), .int .i64 v] 50)).drew)
    case first =>
      refine larger6 (l := l) (h := h) (d := d) (k := k) (m := m) (y := y) (v := v) (l' := l') (h' := h') (d' := d') (k' := k') (m' := m') (y' := y') q0 q1 q2 q3 q4 q5 q6 r0 r1 r2 r3 r4 r5 _ _ _ _ _ _ _ _ _ _ _ _ _ _ _ _ _ _ _ _ _ _ _ _ _ _ _ _ _ _ _ _ _ _ _ _ _ _ _ _ _ _ _ _ _ _ _ _ _ _ _ _ _ _ _ _ _ _ _ _ _ _ _ _ _ _ _ _ _ _ _ _ _ _ _ _ _ _ _ _ _ _ _ _ _ _ _ _ _ _ _ _ _ _ _ _ _ _ _ _ _ _ _ _ _ _ _ _ _ _ _ _ _ _ _ _ _ _ _ _ _ _ _ _ _ _ _ _ _ _ _ _ _ _ _ _ _ _ _ _ _ _ _ _ _ _ _ _ _ _ _ _ _ _ _ _ _ _ _ _ _ _ _ _ _ _ _ _ _ _ _ _ _ _ _ _ _ _ _ _ _ _ _ _ _ _ _ _ _ _ _ _ _ _ _ _ _ _ _ _ _ _ _ _ _ _ _ _ _ _ _ _ _ _ _ _ _ _ _ _ _ _ _ _ _ _ _ _ _ _ _ _ _ _ _ _ _ _ _ _ _ _ _ _ _ _ _ _ _ _ _ ?_
      intro u173 u174 u175 u176 u177 u178 u179 u180 u181 u182 u183 u184 u185 u186 u187 u188 u189 u190 u191 u192 u193 u194 u195 u196 u197 u198 u199 u200 u201 u202 u203 u204 u205
      go_wp2_with fail
      go_meet
      exact ⟨rfl, rfl⟩
    case rest =>
      obtain ⟨wB, rfl⟩ : ∃ wB, wB = wc := ⟨_, rfl⟩
      obtain ⟨rfl, hwc⟩ := hcut
      have hb8 : Blk wB wA.heap.size 50 #[.int .i16 (lg l l'), .int .i16 (lg h h'), .int .i16 (lg d d'), .int .i16 (lg k k'), .int .i16 (lg m m'), .int .i16 (lg y y'), .int .i64 v] := by
        rw [hwc]
        exact (Blk.new wA _ _).mod ((Mod.refl no _).drewN 1) (fun c => c)
      have hm8 : Mod no wA wB := by
        rw [hwc]
        exact ((Mod.refl no wA).alloc _).drewN 1
      obtain ⟨gB, hgB⟩ : ∃ gB, gB = wA.heap.size := ⟨_, rfl⟩
      rw [← hgB] at hb8 ⊢
      have q9 := (H7q.out.mod hm8 (fun c => c)).cell 6
      have r9 := (H7.out.2.2.1.mod hm8 (fun c => c)).cell 6
      have b6 := hb8.cell 6
      have f6 := hb8.free 6
      have H8 := Lib.hid (And.intro hb8 (And.intro hm8 hgB))
      clear hwc hb8 hm8 hgB q0 q1 q2 q3 q4 q5 q6 r0 r1 r2 r3 r4 r5
      go_upto_if 210 with fail
      go_cut [] (fun wx => Blk wx gB 50 #[.int .i16 (lg l l'), .int .i16 (lg h h'), .int .i16 (lg d d'), .int .i16 (lg k k'), .int .i16 (lg m m'), .int .i16 (lg y y'), .int .i64 (lg v v')] ∧ Mod no wA wx)
      case first =>
        by_cases hvv : v < v'
        · go_wp2_with fail
          go_meet
          refine ⟨?_, ?_⟩
          · rw [show lg v v' = v' by unfold lg; rw [if_neg (by omega)]]
            exact H8.out.1.put 6 _
          · exact H8.out.2.1.set (p := ⟨gB, 6, none⟩) (fun hlt => by have h1 := H8.out.2.2; have h2 : gB < wA.heap.size := hlt; omega) _
        · go_wp2_with fail
          go_meet
          refine ⟨?_, H8.out.2.1⟩
          rw [show lg v v' = v by unfold lg; split <;> omega]
          exact H8.out.1
      case rest =>
        obtain ⟨wC, rfl⟩ : ∃ wC, wC = wc := ⟨_, rfl⟩
        obtain ⟨hbC, hmC⟩ := hcut
        clear q9 r9 b6 f6
        have q0 := hbC.cell 0
        have q1 := hbC.cell 1
        have q2 := hbC.cell 2
        have q3 := hbC.cell 3
        have q4 := hbC.cell 4
        have q5 := hbC.cell 5
        have q6 := hbC.cell 6
        have hVo := HV.out
        have hVo' := HV'.out
        have hcall := (plan_any (c := c) (H7.out.1.mod hmC (fun _ c => c)) (by have := HN.out; omega) (lg_le hVo.1 hVo'.1) (lg_le hVo.2.1 hVo'.2.1) (lg_le hVo.2.2.1 hVo'.2.2.1) (lg_le hVo.2.2.2.1 hVo'.2.2.2.1) (lg_le hVo.2.2.2.2.1 hVo'.2.2.2.2.1) (lg_le hVo.2.2.2.2.2.1 hVo'.2.2.2.2.2.1) (lg_le hVo.2.2.2.2.2.2 hVo'.2.2.2.2.2.2)).mono (fun e w' hp => plan_out hp)
        unfold rv at hcall
        have HCL := Lib.hid hcall
        have HCm := Lib.hid hmC
        clear hcall hbC hmC hVo hVo'
        go_wp2_with fail
        refine HCL.out.mono ?_
        rintro e6 w9 ⟨A4, n4, c4, en4, ws4, rfl, ho4, hk4, hg4, hM4, hm4⟩
        have hz4 : Oc i tm (lg l l') (lg h h') (lg d d') (lg k k') (lg m m') (lg y y') (lg v v') i 0 := .inr (.inr (.inr ⟨HST.out.1, right_lg HST.out.2.1 _ _ _ _ _ _ _, HST.out.2.2, rfl, rfl⟩))
        obtain ⟨hn14, hen14⟩ := hz4.same ho4
        subst hn14 hen14
        have hbt : 0 < i → ∀ j, bits .and .u8 (planW tm M l h d k m y v j) (ws4 j) = planW tm M l h d k m y v j := fun hp j => by
          obtain ⟨M4, s4, e4⟩ := hM4 hp
          rw [e4, sd_unique s4 HSD.out]
          exact more_keeps HSD.out (lg_ge _ _) (lg_ge _ _) (lg_ge _ _) (lg_ge _ _) (lg_ge _ _) (lg_ge _ _) (lg_ge _ _) j
        have hkA : KV w9 A1 i nm (planW tm M l h d k m y v) := (H7.out.2.1.mod HCm.out (fun _ _ c => c)).mod hm4 (fun _ _ c => c)
        have HBT := Lib.hid (And.intro hbt (And.intro hkA (And.intro hk4 hm4)))
        have e4' : ((i : Int) != (i : Int)) = false := by simp
        clear hz4 ho4 hk4 hg4 hM4 hm4 hbt hkA q0 q1 q2 q3 q4 q5 q6
        go_wp2_with fail
        go_loopw [21] (K3 w9 i) (fun v _ => i - (intOf v).toNat)
        case atStart => exact ⟨0, 0, Nat.zero_le _, rfl, rfl⟩
        case round =>
          obtain ⟨j, u, hj, rfl, hw⟩ := hrel
          have hM : Mod no w9 wr := by rw [hw]; exact (Mod.refl no w9).drewN u
          have HW := Lib.hid (And.intro hw hM)
          by_cases hlt : j < i
          · obtain ⟨g, rfl, ka⟩ := (HBT.out.2.1.mod hM (fun _ _ c => c)) (by omega)
            obtain ⟨g4, rfl, kb⟩ := (HBT.out.2.2.1.mod hM (fun _ _ c => c)) (by omega)
            have k1 := ka.why hlt
            have k2 := kb.why hlt
            have hx3 := HBT.out.1 (by omega) j
            obtain ⟨x, hx⟩ : ∃ x, x = planW tm M l h d k m y v j := ⟨_, rfl⟩
            obtain ⟨z, hz⟩ : ∃ z, z = ws4 j := ⟨_, rfl⟩
            rw [← hx] at k1 hx3
            rw [← hz] at k2 hx3
            have hx4 : (bits .and .u8 x z != x) = false := by rw [hx3]; simp
            have g5 : (j : Int) < (i : Int) := by omega
            have g6 : ¬ (j : Int) < 0 := by omega
            have w1 : wrap64 ((j : Int) + 1) = (j : Int) + 1 := IntWalk.wrap64_in _ (by have := HN.out; omega)
            have HL := Lib.hid hlt
            clear hx hz hx3 ka kb hw hM hlt hj
            go_wp2_with fail
            go_quiet (fail)
            go_wp2_with fail
            go_roundw
            case rel => exact ⟨j + 1, u + nq, HL.out, by go_num, by rw [HW.out.1, World.drewN_drewN]⟩
            case measure =>
              have := HL.out
              try rw [w1]
              clear w1
              show i - ((j : Int) + 1).toNat < i - ((j : Int)).toNat
              omega
          · obtain rfl : j = i := by omega
            have g5 : ¬ (j : Int) < (j : Int) := by omega
            have hfin : Mod no w wr := ((H7.out.2.2.2.and_then HCm.out).and_then HBT.out.2.2.2).and_then hM
            have HF := Lib.hid hfin
            clear hw hM hlt hj hfin
            go_wp2_with fail
            go_ret
            exact ⟨rfl, HF.out⟩
end Go.Proofs.Ytoncjoelkenjnaa.PL
