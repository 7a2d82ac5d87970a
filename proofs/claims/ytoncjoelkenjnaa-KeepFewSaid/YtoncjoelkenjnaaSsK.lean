/- slices.SortStableFunc at []int: symMerge of any rows; stable; the contract. -/
import Derived.Test.YtoncjoelkenjnaaSsI
import Derived.Test.YtoncjoelkenjnaaSsJ
import Derived.Test.YtoncjoelkenjnaaSsG
namespace Go.Proofs.Ytoncjoelkenjnaa.SS
open Go.RowKit Mem
set_option linter.unusedVariables false
set_option linter.unusedSimpArgs false

theorem sym_any {K : Int → Int} {cf : Int → Int → Int} {D : Int → Prop} {g : Nat} {cb : Array Value} {b c : Nat} {R : List Value} : ∀ len, Sym K cf D g cb b c R len := by
  intro len
  induction len with
  | zero => intro w P A B Q h _ h1; omega
  | succ len ih =>
    intro w P A B Q hlen C h1 h2 H hl hA hB hAB hDA hDB
    by_cases hA1 : A.length = 1
    · obtain ⟨x, rfl⟩ : ∃ x, A = [x] := List.length_eq_one_iff.1 hA1
      have h := sym1_any (c := c) C H hl hB (fun y hy => hAB x (by simp) y hy) (hDA x (by simp)) hDB
      exact h
    · by_cases hB1 : B.length = 1
      · obtain ⟨y, rfl⟩ : ∃ y, B = [y] := List.length_eq_one_iff.1 hB1
        exact sym2_any (c := c) C hA1 H hl hA (fun x hx => hAB x hx y (by simp)) (hDB y (by simp)) hDA
      · by_cases hc : (P.length + (P.length + A.length + B.length)) / 2 < P.length + A.length
        · exact sym3a_any ih hlen C hc (by omega) (by omega) H hl hA hB hAB hDA hDB
        · exact sym3b_any ih hlen C hc (by omega) (by omega) H hl hA hB hAB hDA hDB
/-- The first loop of stable. -/
def L1 (K : Int → Int) (w : World) (b : Nat) (L : List Int) (R : List Value) (va vb : Value) (wr : World) : Prop := ∃ (a e : Nat) (Mx X U : List Int), L = X ++ U ∧ BlF K 20 Mx X ∧ X.length = a ∧ e = a + 20 ∧ va = .int .i64 (a : Int) ∧ vb = .int .i64 (e : Int) ∧ IB wr b (Mx ++ U) R ∧ Mod (one b) w wr
/-- The second. -/
def L2 (K : Int → Int) (w : World) (b : Nat) (L : List Int) (R : List Value) (vs : Value) (wr : World) : Prop := ∃ (s : Nat) (Dd : List Int), vs = .int .i64 (s : Int) ∧ 1 ≤ s ∧ s ≤ 4194400 ∧ Bls K s Dd L ∧ IB wr b Dd R ∧ Mod (one b) w wr
/-- The one within. -/
def L3 (K : Int → Int) (w : World) (b s : Nat) (L : List Int) (R : List Value) (va vb : Value) (wr : World) : Prop := ∃ (a e : Nat) (Nx X D' L' : List Int), L = X ++ L' ∧ BlF K (2 * s) Nx X ∧ X.length = a ∧ e = a + 2 * s ∧ Bls K s D' L' ∧ va = .int .i64 (a : Int) ∧ vb = .int .i64 (e : Int) ∧ IB wr b (Nx ++ D') R ∧ Mod (one b) w wr
theorem measL {z a e s : Nat} (h : a + s = e) (hs : 1 ≤ s) (h2 : e ≤ z) : z + 1 - (intOf (.int .i64 (e : Int))).toNat < z + 1 - (intOf (.int .i64 (a : Int))).toNat := by
  simp only [intOf]
  omega
theorem measM {z s s2 : Nat} (h : s < z + 1) (h2 : s < s2) : z + 1 - (intOf (.int .i64 (s2 : Int))).toNat < z + 1 - (intOf (.int .i64 (s : Int))).toNat := by
  simp only [intOf]
  omega
theorem ins_at {K : Int → Int} {cf : Int → Int → Int} {D : Int → Prop} {g : Nat} {cb : Array Value} {w W : World} {b c N a e : Nat} {L X Mx A U' : List Int} {R : List Value} (C : CmpOK K cf D g cb b w) (hL : L.Pairwise (· < ·)) (hD : ∀ x ∈ L, D x) (hN : N = L.length) (hl : N ≤ 1048600) (hm : Mod (one b) w W) (h : L = X ++ (A ++ U')) (hM : Mx.length = X.length) (ha : X.length = a) (he : a + A.length = e) (H : IB W b (Mx ++ (A ++ U')) R) :
    Calls Try.prog 56 #[.slice (some ⟨b, 0, none⟩) N c, .int .i64 (a : Int), .int .i64 (e : Int), .func (.func g) #[] cb] W fun x w' => x = .returned (.tuple #[]) ∧ ∃ M, Sd K M A ∧ IB w' b (Mx ++ M ++ U') R ∧ Mod (one b) w w' := by
  have hp := hL
  rw [h] at hp hN
  have h1 : (Mx ++ A ++ U').length = N := by rw [hN]; simp only [List.length_append]; omega
  have h2 := insertion_any (c := c) (P := Mx) (L := A) (Q := U') (R := R) (C.mod hm) (by rw [List.append_assoc]; exact H) (by rw [h1]; exact hl) (List.pairwise_append.1 (List.pairwise_append.1 hp).2.1).1 (fun x hx => hD x (by rw [h]; exact List.mem_append_right _ (List.mem_append_left _ hx)))
  rw [h1, hM, ha, he] at h2
  refine h2.mono ?_
  rintro x w' ⟨rfl, M, p, s, hb, m⟩
  exact ⟨rfl, M, ⟨p, s⟩, hb, hm.and_then m⟩
theorem sym_at {K : Int → Int} {cf : Int → Int → Int} {D : Int → Prop} {g : Nat} {cb : Array Value} {w W : World} {b c N a m e : Nat} {L X Nx M1 A1 M2 A2 D' L' : List Int} {R : List Value} (C : CmpOK K cf D g cb b w) (hL : L.Pairwise (· < ·)) (hD : ∀ x ∈ L, D x) (hN : N = L.length) (hl : N ≤ 1048600) (hm : Mod (one b) w W) (h : L = X ++ (A1 ++ (A2 ++ L'))) (hM : Nx.length = X.length) (hM2 : D'.length = L'.length) (h1 : Sd K M1 A1) (h2 : Sd K M2 A2) (z1 : 0 < A1.length) (z2 : 0 < A2.length) (ha : X.length = a) (hm1 : a + A1.length = m) (he : m + A2.length = e) (H : IB W b (Nx ++ (M1 ++ (M2 ++ D'))) R) :
    Calls Try.prog 57 #[.slice (some ⟨b, 0, none⟩) N c, .int .i64 (a : Int), .int .i64 (m : Int), .int .i64 (e : Int), .func (.func g) #[] cb] W fun x w' => x = .returned (.tuple #[]) ∧ ∃ M, Sd K M (A1 ++ A2) ∧ IB w' b (Nx ++ M ++ D') R ∧ Mod (one b) w w' := by
  have hp := hL
  rw [h] at hp hN
  have p1 := List.pairwise_append.1 (List.pairwise_append.1 hp).2.1
  have l1 := h1.len
  have l2 := h2.len
  have hlen : (Nx ++ M1 ++ M2 ++ D').length = N := by rw [hN]; simp only [List.length_append]; omega
  have hH : IB W b (Nx ++ M1 ++ M2 ++ D') R := by rw [show Nx ++ M1 ++ M2 ++ D' = Nx ++ (M1 ++ (M2 ++ D')) by simp]; exact H
  have hc := sym_any (K := K) (cf := cf) (D := D) (g := g) (cb := cb) (b := b) (c := c) (R := R) (M1.length + M2.length) W Nx M1 M2 D' (Nat.le_refl _) (C.mod hm) (by omega) (by omega) hH (by rw [hlen]; exact hl) h1.srt h2.srt
    (fun x hx y hy => p1.2.2 x (h1.perm.mem_iff.1 hx) y (List.mem_append_left _ (h2.perm.mem_iff.1 hy)))
    (fun x hx => hD x (by rw [h]; exact List.mem_append_right _ (List.mem_append_left _ (h1.perm.mem_iff.1 hx))))
    (fun y hy => hD y (by rw [h]; exact List.mem_append_right _ (List.mem_append_right _ (List.mem_append_left _ (h2.perm.mem_iff.1 hy)))))
  rw [hlen, hM, ha, l1, hm1, l2, he] at hc
  refine hc.mono ?_
  rintro x w' ⟨rfl, M, p, s, hb, m⟩
  exact ⟨rfl, M, ⟨p.trans (h1.perm.append h2.perm), s⟩, hb, hm.and_then m⟩
theorem wfs {s : Nat} (h : s ≤ 4194400) : wrap64 (2 * (s : Int)) = ((2 * s : Nat) : Int) ∧ wrap64 ((s : Int) * 2) = ((2 * s : Nat) : Int) := by
  constructor
  · rw [IntWalk.wrap64_in _ (by omega)]; omega
  · rw [IntWalk.wrap64_in _ (by omega)]; omega
theorem wfadd {x y z : Nat} (h : x + y = z) (hz : z ≤ 40000000) : wrap64 ((x : Int) + (y : Int)) = (z : Int) := by rw [IntWalk.wrap64_in _ (by omega)]; omega
theorem wfadd20 {x z : Nat} (h : x + 20 = z) (hz : z ≤ 40000000) : wrap64 ((x : Int) + 20) = (z : Int) := by rw [IntWalk.wrap64_in _ (by omega)]; omega
set_option maxRecDepth 100000 in
set_option maxHeartbeats 4000000 in
theorem stable_any {K : Int → Int} {cf : Int → Int → Int} {D : Int → Prop} {g : Nat} {cb : Array Value} {w : World} {b c : Nat} {L : List Int} {R : List Value} (C : CmpOK K cf D g cb b w) (H : IB w b L R) (hl : L.length ≤ 1048600) (hL : L.Pairwise (· < ·)) (hD : ∀ x ∈ L, D x) :
    Calls Try.prog 47 #[.slice (some ⟨b, 0, none⟩) L.length c, .int .i64 (L.length : Int), .func (.func g) #[] cb] w fun e w' => e = .returned (.tuple #[]) ∧ ∃ M, Sd K M L ∧ IB w' b M R ∧ Mod (one b) w w' := by
  obtain ⟨N, hN⟩ : ∃ N, N = L.length := ⟨_, rfl⟩
  rw [← hN] at hl ⊢
  have HC := Lib.hid C
  have HL := Lib.hid (And.intro hL (And.intro hD hN))
  have HI := Lib.hid (show L1 K w b L R (.int .i64 0) (.int .i64 20) w from ⟨0, 20, [], [], L, rfl, .nil, rfl, rfl, rfl, rfl, H, Mod.refl _ _⟩)
  clear C H hL hD hN
  go_enter Try.func47, Try.ntmps47
  go_wp2_with fail
  go_loopw [7, 8] (L1 K w b L R) (fun va _ _ => N + 1 - (intOf va).toNat)
  case atStart => exact HI.out
  case round =>
    clear HI
    obtain ⟨a, e, Mx, X, U, hXU, hbl, hXa, he, rfl, rfl, hib, hM⟩ := hrel
    have HX := Lib.hid (And.intro hXU (And.intro hbl (And.intro hXa (And.intro he (And.intro hib hM)))))
    have hlen : X.length + U.length = N := by rw [HL.out.2.2, hXU, List.length_append]
    by_cases hle : e ≤ N
    · have gg : (e : Int) ≤ (N : Int) := by omega
      obtain ⟨A, U', hU, hA⟩ : ∃ A U', U = A ++ U' ∧ A.length = 20 := ⟨U.take 20, U.drop 20, (List.take_append_drop _ _).symm, by rw [List.length_take]; omega⟩
      have hcall := ins_at (c := c) (a := a) (e := e) (A := A) (U' := U') (Mx := Mx) (X := X) HC.out HL.out.1 HL.out.2.1 HL.out.2.2 hl hM (by rw [hXU, hU]) hbl.len hXa (by rw [hA]; exact he.symm) (by rw [← hU]; exact hib)
      have HCA := Lib.hid hcall
      obtain ⟨e2, he2⟩ : ∃ e2, e2 = e + 20 := ⟨_, rfl⟩
      have w1 : wrap64 ((e : Int) + 20) = (e2 : Int) := wfadd20 he2.symm (by omega)
      have HY := Lib.hid (And.intro hU (And.intro hA (And.intro he2 hle)))
      clear hXU hbl hXa he hib hM hlen hle hU hA hcall he2
      go_wp2_with fail
      refine HCA.out.mono ?_
      rintro x w9 ⟨rfl, M, hs, hb, m⟩
      have HE := Lib.hid (And.intro hs (And.intro hb m))
      clear hs hb m
      go_wp2_with fail
      go_roundw
      case rel => exact ⟨e, e2, Mx ++ M, X ++ A, U', by rw [HX.out.1, HY.out.1, List.append_assoc], HX.out.2.1.snoc HY.out.2.1 HE.out.1, by rw [List.length_append, HX.out.2.2.1, HY.out.2.1]; exact HX.out.2.2.2.1.symm, HY.out.2.2.1, rfl, by first | rfl | rw [w1] | (congr 1; have h := HY.out.2.2.1; omega), HE.out.2.1, HE.out.2.2⟩
      case measure => exact measL (s := 20) HX.out.2.2.2.1.symm (by decide) HY.out.2.2.2
    · have gg : ¬ (e : Int) ≤ (N : Int) := by omega
      have hU : U.length < 20 := by omega
      have hcall := ins_at (c := c) (A := U) (U' := []) (e := N) HC.out HL.out.1 HL.out.2.1 HL.out.2.2 hl hM (by rw [hXU]; simp) hbl.len hXa (by omega) (by rw [List.append_nil]; exact hib)
      have HCA := Lib.hid hcall
      have HY := Lib.hid hU
      clear hXU hbl hXa he hib hM hlen hle hU hcall
      go_wp2_with fail
      refine HCA.out.mono ?_
      rintro x w9 ⟨rfl, M, hs, hb, m⟩
      rw [List.append_nil] at hb
      have HE := Lib.hid (show L2 K w b L R (.int .i64 20) w9 from ⟨20, Mx ++ M, rfl, by decide, by decide, by rw [HX.out.1]; exact HX.out.2.1.end_ HY.out hs, hb, m⟩)
      clear hs hb m HX HY HCA
      go_wp2_with fail
      go_loopw [6, 7, 8, 9] (fun v6 _ _ _ wr => L2 K w b L R v6 wr) (fun v6 _ _ _ _ => N + 1 - (intOf v6).toNat)
      case atStart => exact HE.out
      case round =>
        clear HE
        obtain ⟨s, Dd, rfl, hs1, hs2, hbl, hib, hM⟩ := hrel
        by_cases hlt : s < N
        · have gg2 : (s : Int) < (N : Int) := by omega
          obtain ⟨s2, hs2e⟩ : ∃ s2, s2 = 2 * s := ⟨_, rfl⟩
          have HJ := Lib.hid (show L3 K w b s L R (.int .i64 0) (.int .i64 (s2 : Int)) wr from ⟨0, s2, [], [], Dd, L, rfl, .nil, rfl, by omega, hbl, rfl, rfl, hib, hM⟩)
          have HS := Lib.hid (And.intro hs1 (And.intro hlt hs2e))
          have V2 := Lib.hid (show (s2 : Int) = (s : Int) * 2 ∧ (s2 : Int) = 2 * (s : Int) from ⟨by omega, by omega⟩)
          have hw23 := wfs hs2
          rw [← hs2e] at hw23
          have W23 := Lib.hid hw23
          clear hs1 hs2 hbl hib hM hlt hs2e hw23
          have w2 := W23.out.1
          go_wp2_with fail
          go_loopw [7, 8] (L3 K w b s L R) (fun va _ _ => N + 1 - (intOf va).toNat)
          case atStart => first | exact HJ.out | (have h := HS.out.2.2; have h2 := HJ.out; rw [h] at h2; simpa using h2)
          case round =>
            clear HJ w2
            obtain ⟨a, e, Nx, X, D', L', hXL, hbl, hXa, he, hrest, rfl, rfl, hib, hM⟩ := hrel
            have hlen : X.length + L'.length = N := by rw [HL.out.2.2, hXL, List.length_append]
            obtain ⟨m1, hm1⟩ : ∃ m1, a + s = m1 := ⟨_, rfl⟩
            have HX := Lib.hid (And.intro hXL (And.intro hbl (And.intro hXa (And.intro he (And.intro hrest (And.intro hib hM))))))
            have W4 := Lib.hid (show wrap64 ((a : Int) + (s : Int)) = (m1 : Int) from wfadd hm1 (by have := HS.out; omega))
            by_cases hle : e ≤ N
            · have gg3 : (e : Int) ≤ (N : Int) := by omega
              obtain ⟨M1, A1, M2, A2, D2, L2', hD, hLL, l1, l2, z1, z2, hr2⟩ := hrest.two (by omega)
              have hcall := sym_at (c := c) (a := a) (m := m1) (A1 := A1) (A2 := A2) (M1 := M1) (M2 := M2) (D' := D2) (L' := L2') (Nx := Nx) (X := X) HC.out HL.out.1 HL.out.2.1 HL.out.2.2 hl hM (by rw [hXL, hLL]) hbl.len hr2.len z1 z2 (by rw [l1]; exact HS.out.1) (by rw [l2]; exact HS.out.1) hXa (by rw [l1]; exact hm1) (e := e) (by rw [l2]; omega) (by rw [← hD]; exact hib)
              have HCA := Lib.hid hcall
              obtain ⟨e2, he2⟩ : ∃ e2, e + s2 = e2 := ⟨_, rfl⟩
              have W5 := Lib.hid (show wrap64 ((e : Int) + (s2 : Int)) = (e2 : Int) from wfadd he2 (by have := HS.out; omega))
              have HY := Lib.hid (And.intro hLL (And.intro l1 (And.intro l2 (And.intro hr2 (And.intro he2 hle)))))
              clear hXL hbl hXa he hrest hib hM hlen hm1 hle hD hLL l1 l2 z1 z2 hr2 hcall he2
              have w4 := W4.out
              have w2 := W23.out.1
              have w5 := W5.out
              go_wp2_with fail
              refine HCA.out.mono ?_
              rintro x w11 ⟨rfl, M, hs, hb, m⟩
              have HE := Lib.hid (And.intro hs (And.intro hb m))
              clear hs hb m
              go_wp2_with fail
              go_roundw
              case rel => exact ⟨e, e2, Nx ++ M, X ++ (A1 ++ A2), D2, L2', by rw [HX.out.1, HY.out.1]; simp, HX.out.2.1.snoc (by rw [List.length_append, HY.out.2.1, HY.out.2.2.1]; omega) HE.out.1, by have h1 := HX.out; have h2 := HY.out; simp only [List.length_append]; omega, by have h1 := HS.out.2.2; have h2 := HY.out.2.2.2.2.1; omega, HY.out.2.2.2.1, rfl, by first | rfl | rw [w5] | (rw [← V2.out.2]; congr 1; have h := HY.out.2.2.2.2.1; omega) | (congr 1; have h := HY.out.2.2.2.2.1; have h2 := V2.out; omega), HE.out.2.1, HE.out.2.2⟩
              case measure => exact measL (s := 2 * s) (by have h1 := HX.out.2.2.2.1; omega) (by have h1 := HS.out.1; omega) HY.out.2.2.2.2.2
            · have gg3 : ¬ (e : Int) ≤ (N : Int) := by omega
              by_cases hm : m1 < N
              · have gg4 : (m1 : Int) < (N : Int) := by omega
                obtain ⟨M1, A1, M2, A2, hD, hLL, l1, l2, z1, z2⟩ := hrest.one (by omega) (by omega)
                have hlen2 : L'.length = A1.length + A2.length := by rw [hLL, List.length_append]
                have hcall := sym_at (c := c) (a := a) (m := m1) (A1 := A1) (A2 := A2) (M1 := M1) (M2 := M2) (D' := []) (L' := []) (Nx := Nx) (X := X) HC.out HL.out.1 HL.out.2.1 HL.out.2.2 hl hM (by rw [hXL, hLL]; simp) hbl.len rfl z1 z2 (by rw [l1]; exact HS.out.1) l2 hXa (by rw [l1]; exact hm1) (e := N) (by omega) (by rw [List.append_nil, ← hD]; exact hib)
                have HCA := Lib.hid hcall
                have HY := Lib.hid (And.intro hLL hlen2)
                have HLE := Lib.hid (show L'.length < 2 * s by omega)
                clear hXL hbl hXa he hrest hib hM hlen hm1 hle hD hLL l1 l2 z1 z2 hcall hm hlen2
                have w4 := W4.out
                go_wp2_with fail
                refine HCA.out.mono ?_
                rintro x w11 ⟨rfl, M, hs, hb, m⟩
                rw [List.append_nil] at hb
                have HE := Lib.hid (show L2 K w b L R (.int .i64 (s2 : Int)) w11 from ⟨s2, Nx ++ M, rfl, by have := HS.out; omega, by have := HS.out; omega, by rw [HX.out.1, HS.out.2.2]; exact HX.out.2.1.end_ HLE.out (by rw [HY.out.1]; exact hs), hb, m⟩)
                clear hs hb m w4
                have w3 := W23.out.2
                go_wp2_with fail
                go_roundw
                case rel => first | exact HE.out | (rw [← V2.out.1]; exact HE.out)
                case measure =>
                  have hm := measM (z := N) (s := s) (s2 := s2) (by have h1 := HS.out.2.1; omega) (by have h1 := HS.out; omega)
                  first | exact hm | (rw [← V2.out.1]; exact hm)
              · have gg4 : ¬ (m1 : Int) < (N : Int) := by omega
                have hfew := hrest.few (by omega)
                have HE := Lib.hid (show L2 K w b L R (.int .i64 (s2 : Int)) wr from ⟨s2, Nx ++ D', rfl, by have := HS.out; omega, by have := HS.out; omega, by rw [hXL, HS.out.2.2]; exact hbl.end_ (by have := HS.out.1; omega) hfew, hib, hM⟩)
                clear hXL hbl hXa he hrest hib hM hlen hm1 hle hfew hm
                have w4 := W4.out
                have w3 := W23.out.2
                go_wp2_with fail
                go_roundw
                case rel => first | exact HE.out | (rw [← V2.out.1]; exact HE.out)
                case measure =>
                  have hm := measM (z := N) (s := s) (s2 := s2) (by have h1 := HS.out.2.1; omega) (by have h1 := HS.out; omega)
                  first | exact hm | (rw [← V2.out.1]; exact hm)
        · have gg2 : ¬ (s : Int) < (N : Int) := by omega
          have hfew := hbl.few (by rw [← HL.out.2.2]; omega)
          have HE := Lib.hid (show ∃ M, Sd K M L ∧ IB wr b M R ∧ Mod (one b) w wr from ⟨Dd, hfew, hib, hM⟩)
          clear hs1 hs2 hbl hib hM hlt hfew
          go_wp2_with fail
          go_end0
          exact ⟨rfl, HE.out⟩
set_option maxRecDepth 100000 in
set_option maxHeartbeats 2000000 in
/-- slices.SortStableFunc of ints that rise, by a key: a permutation, by the key; of equal ones the less is ahead. -/
theorem sortStable_any {K : Int → Int} {cf : Int → Int → Int} {D : Int → Prop} {g : Nat} {cb : Array Value} {w : World} {b c : Nat} {L : List Int} {R : List Value} (C : CmpOK K cf D g cb b w) (H : IB w b L R) (hl : L.length ≤ 1048600) (hL : L.Pairwise (· < ·)) (hD : ∀ x ∈ L, D x) :
    Calls Try.prog 38 #[.slice (some ⟨b, 0, none⟩) L.length c, .func (.func g) #[] cb] w fun e w' => e = .returned (.tuple #[]) ∧ ∃ M, Sd K M L ∧ IB w' b M R ∧ Mod (one b) w w' := by
  have HS := Lib.hid (stable_any (c := c) C H hl hL hD)
  generalize hN : L.length = N at *
  clear C H hl hL hD
  go_enter Try.func38, Try.ntmps38
  go_wp2_with (go_at_call 47; refine HS.out.mono ?_; rintro e w9 ⟨rfl, hE⟩; have HE := Lib.hid hE; clear hE)
  go_end0
  exact ⟨rfl, HE.out⟩
end Go.Proofs.Ytoncjoelkenjnaa.SS
