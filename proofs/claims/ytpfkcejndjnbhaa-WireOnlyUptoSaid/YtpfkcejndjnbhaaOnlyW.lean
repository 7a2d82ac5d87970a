/- The law WireOnly: the walk. -/
import Derived.Test.YtpfkcejndjnbhaaOnlyL
import Derived.StillTailTactics
namespace Go.Proofs.Ytpfkcejndjnbhaa.ON
open Go.RowKit Mem WM
open Go.Proofs.Ytpfkcejndjnbhaa.WD (RdT RdB u8_info own_mod key_size takeV gotV LiveAt DecAt take_any end_any left_any endV key_len conv_string var_any open_any)
open Go.Proofs.Ytpfkcejndjnbhaa.OP (AddI AddAt allB Elems cell_lt atA)
open Go.Proofs.Ytpfkcejndjnbhaa.EN
open Go.Proofs.Ytpfkcejndjnbhaa.BK (conv_rds)
set_option linter.unusedVariables false
set_option linter.unusedSimpArgs false

/-- What is held of the bytes that were added again. -/
def Held (l eb : List UInt8) (k : Nat) : St → Prop
  | .live p => p ≤ l.length ∧ eb = l.take p
  | .dead _ _ => True

def OnlyInv (W : World) (g gb q : Nat) (l : List UInt8) (n : Nat) (i : Value) (wr : World) : Prop :=
  ∃ (k : Nat) (s : St) (A1 : Option Addr) (eb : List UInt8), k ≤ n ∧ i = .int .i64 (k : Int) ∧ DecAt wr g gb l s ∧ EncR wr q A1 eb ∧ Held l eb k s ∧ eb.length ≤ l.length + 200 * k ∧ (∀ b, atA A1 b → q < b) ∧ Mod no W wr ∧ q < wr.heap.size

theorem takeA_dead (l : List UInt8) (a c : Nat) (kind : Int) (most : Nat) (n : Int) : (takeA l (.dead a c) kind most n).1 = .dead a c := by
  unfold takeA keyA fixA
  repeat' split
  all_goals rfl

/-- One round, in plain Lean. -/
theorem held_next {l eb : List UInt8} {k : Nat} {s : St} (kind : Int) (most : Nat) (n : Int) (hf : Fit l s) (h : Held l eb k s) (hlen : eb.length ≤ l.length + 200 * k) (hl : l.length ≤ 1048576) :
    Held l (eb ++ addA kind (takeA l s kind most n).2.1 (takeA l s kind most n).2.2 (takeA l s kind most n).2.2 (againK kind (takeA l s kind most n).2.2)) (k + 1) (takeA l s kind most n).1 ∧
      (eb ++ addA kind (takeA l s kind most n).2.1 (takeA l s kind most n).2.2 (takeA l s kind most n).2.2 (againK kind (takeA l s kind most n).2.2)).length ≤ l.length + 200 * (k + 1) := by
  have hN := takeA_lt l s kind most n hf
  have hB := takeA_len l s kind most n
  rcases ht : takeA l s kind most n with ⟨s1, N, B⟩
  rw [ht] at hN hB
  simp only at hN hB ⊢
  have hK : (againK kind B).length ≤ 32 + B.length := by unfold againK; split <;> simp
  have hA := addA_len kind N B B (againK kind B) hN (by omega) (by omega)
  cases s1 with
  | dead a c =>
    have hs := dead_short kind most n ht
    refine ⟨trivial, ?_⟩
    simp only [List.length_append]
    omega
  | live q =>
    cases s with
    | dead a c =>
      exfalso
      have : (takeA l (.dead a c) kind most n).1 = .dead a c := takeA_dead l a c kind most n
      rw [ht] at this
      cases this
    | live p =>
      obtain ⟨hp, he⟩ := h
      obtain ⟨h1, h2⟩ := only_take kind most n N B hp ht
      rw [he, h1]
      refine ⟨⟨h2, rfl⟩, ?_⟩
      simp; omega

theorem againK_len (kind : Int) (B : List UInt8) (h : kind = 4 → B.length = 32) : (againK kind B).length = 32 := by
  unfold againK; split
  · rename_i h4; exact h h4
  · simp

theorem vb300 : varBytes 300 = [172, 2] := by rw [varBytes_big (by decide), varBytes_small (by decide)]; rfl
theorem var300 : varA [172, 2] (.live 0) 300 = (.live 2, 300) := by rfl

set_option maxRecDepth 100000 in
set_option maxHeartbeats 4000000 in
theorem only_law {W : World} {A : Option Addr} {l : List UInt8} {c : Nat} (hR : Rds W 1 A l.length (bvs l)) (hl : l.length ≤ 1048576)
    {A2 : Option Addr} {n c2 : Nat} {E : Nat → List Value} (hE : Elems W A2 n 3 E) (hn : n ≤ 1048576)
    (hT : ∀ i, i < n → ∃ (k : Int) (m : Nat) (u : Int), E i = [.int .i64 k, .int .u64 (m : Int), .int .i64 u] ∧ m < 18446744073709551616 ∧ -9223372036854775808 ≤ u ∧ u ≤ 9223372036854775807) :
    Calls Try.prog 7 #[.slice A l.length c, .slice A2 n c2] W fun e w' => e = .returned (.bool true) ∧ Mod no W w' := by
  have HR := Lib.hid hR
  have HE := Lib.hid hE
  have HL := Lib.hid hl
  have HT := Lib.hid hT
  clear hR hE hl hT
  go_enter Try.func7, Try.ntmps7
  go_wp2_with fail
  refine (open_r HR.out (by have := HL.out; omega)).mono ?_
  rintro e w1 ⟨g, gb, rfl, hg, hgb, LV, M1⟩
  have g1 : g < w1.heap.size := by obtain ⟨A9, c9, hb9, _⟩ := LV; exact hb9.lt
  have gb1 : l ≠ [] → gb < w1.heap.size := by obtain ⟨A9, c9, hb9, _, _, h9, _⟩ := LV; intro hne; obtain ⟨o9, cs9, _, h8, _⟩ := h9 hne; exact h8.lt
  have hV0 := fun o => Lib.hid (show DecAt (w1.alloc o) g gb l (.live 0) from LiveAt.mod LV ((Mod.refl no w1).alloc o) (fun c => c) (fun _ c => c))
  have hM0 := fun o => Lib.hid (M1.alloc o)
  have HX := Lib.hid (And.intro hg (And.intro g1 gb1))
  have hE0 := Lib.hid (show EncR (w1.alloc (.cells #[.slice none 0 0, .pointer none] 26)) w1.heap.size none [] from .inr ⟨rfl, none, 0, .pointer none, Blk.new w1 _ _, RdT.nil_ _ _, .inl rfl⟩)
  clear LV M1 hg hgb g1 gb1
  go_wp2_with fail
  go_loopw [7] (OnlyInv W g gb w1.heap.size l n) (fun i _ => n - (intOf i).toNat)
  case atStart => exact ⟨0, .live 0, none, [], Nat.zero_le _, rfl, (hV0 _).out, hE0.out, ⟨Nat.zero_le _, by simp⟩, by simp, (fun b hb => by cases hb), (hM0 _).out, by simp⟩
  case round =>
    obtain ⟨k, s, A1, eb, hk, rfl, D, R, G, hlen, hge, M, hq⟩ := hrel
    have HD := Lib.hid D
    have HRR := Lib.hid R
    have HG := Lib.hid (And.intro G (And.intro hlen (And.intro hge hq)))
    have HM := Lib.hid M
    clear D R G M hlen hge hq
    by_cases hlt : k < n
    · obtain ⟨b2, o2, rfl, hcells⟩ := HE.out (by omega)
      obtain ⟨hel, hec⟩ := hcells k hlt
      obtain ⟨kk, mm, u, hEk, hm64, hu1, hu2⟩ := HT.out k hlt
      rw [hEk] at hec
      have e0 := hec 0 (by omega)
      have e1 := hec 1 (by omega)
      have e2 := hec 2 (by omega)
      simp at e0 e1 e2
      have hbW : b2 < W.heap.size := cell_lt e0
      have HCW := Lib.hid (And.intro e0 (And.intro e1 (And.intro e2 hbW)))
      have e0 := (HM.out.cell (p := ⟨b2, o2 + k * 3, none⟩) hbW (fun c => c)).trans e0
      have e1 := (HM.out.cell (p := ⟨b2, o2 + k * 3 + 1, none⟩) hbW (fun c => c)).trans e1
      have e2 := (HM.out.cell (p := ⟨b2, o2 + k * 3 + 2, none⟩) hbW (fun c => c)).trans e2
      have hb2 : b2 < wr.heap.size := cell_lt e0
      obtain ⟨x1, x2, x3⟩ := HX.out
      obtain ⟨y1, y2, y3, y4⟩ := HG.out
      have hf := HD.out.fit
      have HTK := take_any kk mm u HD.out (by have := HL.out; omega) (fun hne => by have := x3 hne; omega) hm64 hu1 hu2
      obtain ⟨hh1, hh2⟩ := held_next kk mm u hf y1 y2 HL.out
      have hN64 := takeA_lt l s kk mm u hf
      have hBl := takeA_len l s kk mm u
      have hK4 : kk = 4 → (takeA l s kk mm u).2.2.length = 32 := by rintro rfl; exact key_len l s
      rcases htk : takeA l s kk mm u with ⟨S1, N, B⟩
      rw [htk] at HTK hh1 hh2 hN64 hBl hK4
      simp only at HTK hh1 hh2 hN64 hBl hK4
      have HTK := Lib.hid HTK
      have HH := Lib.hid (And.intro hh1 (And.intro hh2 (And.intro hN64 (And.intro hBl hK4))))
      clear hh1 hh2 hN64 hBl hK4 htk x1 x2 x3 y1 y2 y3 y4 hf hcells hel hec hEk hm64 hu1 hu2
      go_wp2_with (first
        | (go_at_call 25; refine HTK.out.mono ?_
           rintro e w5 ⟨rfl, D5, M5⟩
           simp only [gotV]
           have HD5 := Lib.hid D5
           have HM5 := Lib.hid M5
           clear D5 M5))
      obtain ⟨x1, x2, x3⟩ := HX.out
      obtain ⟨y1, y2, y3, y4⟩ := HG.out
      have z1 := HM5.out.size
      have m5 : Mod no W w5 := HM.out.trans HM5.out (fun b hb c => by simp only [one] at c; omega)
      have R5 : EncR w5 w1.heap.size A1 eb := by
        refine HRR.out.mod HM5.out (fun c => ?_) (fun b hb c => ?_) (fun hA b cs hb c => ?_)
        · simp only [one] at c; omega
        · have := y3 b hb; simp only [one] at c; omega
        · obtain ⟨ct, hct⟩ := HD.out.typ
          simp only [one] at c; subst c
          rcases hb with hb | hb
          · exact absurd (hb.same hct).1 (by decide)
          · exact absurd (hb.same hct).1 (by decide)
      have m8 : Mod no W (w5.alloc (.cells #[.int .u64 (N : Int), .string ⟨B.toArray⟩] 66)) := m5.alloc _
      have q8 : Mod no w5 (w5.alloc (.cells #[.int .u64 (N : Int), .string ⟨B.toArray⟩] 66)) := (Mod.refl no w5).alloc _
      have hb8 := Blk.new w5 66 #[.int .u64 (N : Int), .string ⟨B.toArray⟩]
      have HR5 := Lib.hid R5
      clear x1 x2 x3 y1 y2 y3 y4 z1 m5 R5 e0 e1 e2 hb2
      generalize w5.alloc (.cells #[.int .u64 (N : Int), .string ⟨B.toArray⟩] 66) = w8 at *
      have z0 := hb8.cell 0
      have z1 := hb8.cell 1
      simp at z0 z1
      obtain ⟨v0, v1, v2, v3⟩ := HCW.out
      have e0 := (m8.cell (p := ⟨b2, o2 + k * 3, none⟩) v3 (fun c => c)).trans v0
      have e1 := (m8.cell (p := ⟨b2, o2 + k * 3 + 1, none⟩) v3 (fun c => c)).trans v1
      have e2 := (m8.cell (p := ⟨b2, o2 + k * 3 + 2, none⟩) v3 (fun c => c)).trans v2
      have HM8 := Lib.hid m8
      have HQ8 := Lib.hid q8
      clear m8 q8 hb8 v0 v1 v2
      go_still_tail 5, (by kernel_rfl)
      change wpList _ _ _ _ _ w8.drew
      have HM8 := Lib.hid HM8.out.drew
      have HQ8 := Lib.hid HQ8.out.drew
      clear z0 z1 e0 e1 e2
      generalize w8.drew = w8 at *
      go_wp2_with (first
        | (go_at_call 27; refine (again_any kk mm u N B HH.out.2.2.2.2).mono ?_; rintro e w9 ⟨gg, cap, rfl, hgg, R9, M9⟩; have HR9 := Lib.hid R9; have HM9 := Lib.hid M9; have HGG := Lib.hid hgg; clear R9 M9 hgg)
        | (go_at_call 10
           refine (put_any kk N B (some ⟨gg, 0, none⟩) B.length cap (againK kk B) B ((HR5.out.mod_no HQ8.out).mod_no HM9.out) HH.out.2.2.1 (againK_len kk B HH.out.2.2.2.2) rfl (by have := HG.out.2.1; have := HL.out; have := HH.out.2.2.2.1; omega) HR9.out ?_).mono ?_
           · intro _ ad e
             injection e with e
             subst e
             have := HGG.out
             have := HM5.out.size
             have := HQ8.out.size
             refine ⟨show gg ≠ _ by have := HG.out.2.2.2; omega, fun c => ?_⟩
             obtain ⟨cur, hcb⟩ := HR5.out.row gg c
             have := hcb.lt
             omega
           rintro e w10 ⟨rfl, A4, nA, R4, M4⟩
           have HR4 := Lib.hid R4
           have HM4 := Lib.hid M4
           have HNA := Lib.hid nA
           clear R4 M4 nA))
      obtain ⟨x1, x2, x3⟩ := HX.out
      obtain ⟨y1, y2, y3, y4⟩ := HG.out
      have z1 := HM5.out.size
      have z2 := HQ8.out.size
      have z3 := HM9.out.size
      have z4 := HM4.out.size
      have R9 : EncR w9 w1.heap.size A1 eb := (HR5.out.mod_no HQ8.out).mod_no HM9.out
      have D9 : DecAt w9 g gb l S1 := (HD5.out.mod HQ8.out (fun c => c) (fun _ c => c) (fun _ _ _ c => c)).mod HM9.out (fun c => c) (fun _ c => c) (fun _ _ _ c => c)
      refine ⟨⟨k + 1, S1, A4, _, hlt, by go_num, ?_, HR4.out, HH.out.1, HH.out.2.1, ?_, ?_, by omega⟩, ?_⟩
      · refine D9.mod HM4.out (fun c => ?_) (fun hne c => ?_) (fun f cs hf c => ?_)
        · rcases c with c | c
          · omega
          · have := y3 _ c; omega
        · have := x3 hne
          rcases c with c | c
          · omega
          · have := y3 _ c; omega
        · rcases c with c | c
          · subst c
            obtain ⟨ct, hct⟩ := R9.blk
            exact absurd (hf.same hct).1 (by decide)
          · obtain ⟨ct, hct⟩ := R9.row f c
            exact absurd (hf.same hct).1 (by decide)
      · intro b hb
        rcases HNA.out with rfl | ⟨b', hb', rfl⟩
        · exact y3 b hb
        · injection hb with hb; injection hb with hb; omega
      · exact (HM8.out.and_then HM9.out).trans HM4.out (fun b hb c => by
          rcases c with c | c
          · omega
          · have := y3 _ c; omega)
      · simp [intOf]; omega
    · obtain rfl : k = n := by omega
      have m1 := fun o => Lib.hid ((Mod.refl no wr).alloc o)
      have hE1 := Lib.hid (show EncR (wr.alloc (.cells #[.slice none 0 0, .pointer none] 26)) wr.heap.size none [] from .inr ⟨rfl, none, 0, .pointer none, Blk.new wr _ _, RdT.nil_ _ _, .inl rfl⟩)
      have hv3 := vb300
      go_wp2_with (first
        | (go_at_call 28; refine (var_add 300 (by decide) hE1.out (by simp)).mono ?_
           rw [vb300]
           rintro e w2 ⟨rfl, A5, nA, E5, M5⟩
           have hm5 : Mod no wr w2 := (m1 _).out.trans M5 (fun b hb c => by
             rcases c with c | c
             · omega
             · cases c)
           have HE5 := Lib.hid (show EncR w2 wr.heap.size A5 [172, 2] from .inl E5)
           have HM5 := Lib.hid hm5
           clear nA E5 M5 hm5)
        | (go_at_call 12
           first
             | (refine (bytes_any HE6.out (by simp)).mono ?_
                rintro e w4 ⟨A7, c7, rfl, hown, M⟩
                have HO7 := Lib.hid hown
                have HM7 := Lib.hid (HM6.out.and_then M)
                clear hown M)
             | (refine (bytes_any HE5.out (by simp)).mono ?_
                rintro e w3 ⟨A6, c6, rfl, hown, M⟩
                have hcv := conv_string (RdT.of_own hown) 2 c6 rfl
                have HE6 := Lib.hid (HE5.out.mod_no M)
                have HM6 := Lib.hid (HM5.out.and_then M)
                clear hown M))
        | (go_at_call 15; refine (open_any (RdT.of_own HO7.out) (by simp)).mono ?_
           rintro e w6 ⟨g9, gb9, rfl, hg9, hgb9, LV9, M9⟩
           have glt : gb9 < w6.heap.size := by obtain ⟨A9, c9, hb9, _, _, h9, _⟩ := LV9; obtain ⟨o9, cs9, _, h8, _⟩ := h9 (by simp); exact h8.lt
           have HLV := Lib.hid LV9
           have HM8 := Lib.hid (HM7.out.and_then M9)
           have HG9 := Lib.hid (show wr.heap.size ≤ g9 by have := HM7.out.size; omega)
           clear LV9 M9 hg9 hgb9 glt)
        | (go_at_call 29; refine (var_any (s := .live 0) 300 HLV.out (by decide)).mono ?_
           rw [var300]
           rintro e w7 ⟨rfl, D9, M9⟩
           have hm9 : Mod no wr w7 := HM8.out.trans M9 (fun b hb c => by have := HG9.out; simp only [one] at c; omega)
           have HM9 := Lib.hid hm9
           clear D9 M9 hm9))
      have hD7 : DecAt w7 g gb l s := HD.out.mod HM9.out (fun c => c) (fun _ c => c) (fun _ _ _ c => c)
      have HR7 := Lib.hid (HRR.out.mod_no HM9.out)
      have HW7 := Lib.hid (HM.out.and_then HM9.out)
      obtain ⟨y1, y2, y3, y4⟩ := HG.out
      have TE := end_any hD7
      have TL := fun q => left_any (hD7.mod (S := no) ((Mod.refl no w7).drewN q) (fun c => c) (fun _ c => c) (fun _ _ _ c => c))
      have TV := fun q => var_any 18446744073709551615 (hD7.mod (S := no) ((Mod.refl no w7).drewN q) (fun c => c) (fun _ c => c) (fun _ _ _ c => c)) (by decide)
      cases s with
      | dead a cc =>
        have TE := Lib.hid (show Calls Try.prog 24 #[.pointer (some ⟨g, 0, none⟩)] w7 fun e w' => e = .returned (.iface 58 (.agg #[.int .i64 (a : Int), .int .i64 (cc : Int)])) ∧ ∃ q, w' = w7.drewN q from TE)
        have TL := Lib.hid (show ∀ q, Calls Try.prog 30 #[.pointer (some ⟨g, 0, none⟩)] (w7.drewN q) fun e w' => e = .returned (.int .i64 0) ∧ ∃ q2, w' = (w7.drewN q).drewN q2 from TL)
        have TV := Lib.hid (show ∀ q, Calls Try.prog 29 #[.pointer (some ⟨g, 0, none⟩), .int .u64 18446744073709551615] (w7.drewN q) fun e w' => e = .returned (.int .u64 0) ∧ DecAt w' g gb l (.dead a cc) ∧ Mod (one g) (w7.drewN q) w' from TV)
        clear hD7 y1 y2 y3 y4
        refine TE.out.mono ?_
        rintro e w10 ⟨rfl, q1, rfl⟩
        go_wp2_with (first
          | (go_at_call 30; refine (TL.out _).mono ?_; rintro e w11 ⟨rfl, q2, rfl⟩)
          | (go_at_call 29; refine (TV.out _).mono ?_; rintro e w11 ⟨rfl, D11, M11⟩; have HM11 := Lib.hid M11; clear D11 M11))
        go_ret
        exact ⟨rfl, (HW7.out.drewN _).trans HM11.out (fun b hb c => by have := HX.out.1; simp only [one] at c; omega)⟩
      | live p =>
        obtain ⟨hp, he⟩ := y1
        by_cases hpl : p < l.length
        · have hend : endA l (.live p) = some (p, 13) := by simp only [endA]; rw [if_pos hpl]
          rw [hend] at TE
          have TE := Lib.hid TE
          have hleft : (0 : Int) < ((leftA l (.live p) : Nat) : Int) := by simp only [leftA]; omega
          have TL := Lib.hid TL
          obtain ⟨LF, hLF⟩ : ∃ LF, LF = leftA l (.live p) := ⟨_, rfl⟩
          rw [← hLF] at TL hleft
          clear hD7 y2 y3 y4 hp he hend hLF TV
          refine TE.out.mono ?_
          unfold endV
          rintro e w10 ⟨rfl, q1, rfl⟩
          go_wp2_with (first
            | (go_at_call 30; refine (TL.out _).mono ?_; rintro e w11 ⟨rfl, q2, rfl⟩))
          go_ret
          exact ⟨rfl, HW7.out.drewN _⟩
        · have hend : endA l (.live p) = none := by simp only [endA]; rw [if_neg hpl]
          rw [hend] at TE
          have TE := Lib.hid TE
          have hel : eb = l := by rw [he, List.take_of_length_le (by omega)]
          rw [hel] at HR7
          clear hD7 y2 y3 y4 hp he hend TV TL
          refine TE.out.mono ?_
          unfold endV
          rintro e w10 ⟨rfl, q1, rfl⟩
          have HR10 := Lib.hid (HR7.out.mod_no ((Mod.refl no w7).drewN q1))
          have HW10 := Lib.hid (HW7.out.drewN q1)
          generalize w7.drewN q1 = w10 at *
          go_wp2_with fail
          have hc0 : ∀ w', Mod no w10 w' → (convert 23 9 (.slice A l.length c)).run Try.prog w' = .ok (.string ⟨l.toArray⟩) w' := fun w' m => conv_rds (OP.rds_mod HR.out (HW10.out.and_then m)) _ _ rfl
          have HC0 := Lib.hid hc0
          clear hc0
          have hcA := HC0.out _ ((Mod.refl no w10).drew)
          go_region_with (first | (go_at_call 12
                                   refine (bytes_any (HR10.out.mod_no ((Mod.refl no w10).drew)) (by have := HL.out; omega)).mono ?_
                                   rintro e w11 ⟨A8, c8, rfl, hown, M⟩
                                   have hcv := conv_string (RdT.of_own hown) l.length c8 rfl
                                   have hcB := HC0.out _ (((Mod.refl no w10).drew).and_then M)
                                   have HMB := Lib.hid (((Mod.refl no w10).drew).and_then M)
                                   clear hown M))
          all_goals
            go_wp2_with fail
            go_ret
            exact ⟨rfl, HW10.out.and_then HMB.out⟩

end Go.Proofs.Ytpfkcejndjnbhaa.ON
