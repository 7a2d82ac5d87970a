/- slices.SortStableFunc at []int: insertionSort. -/
import Derived.Test.YtoncjoelkenjnaaSsA
import Derived.Test.YtoncjoelkenjnaaSsM
import Derived.Deep.QuietTactic
import Derived.BigQuiet
import Derived.Shelf.Abstract
import Derived.Laws.BitsLemmas
namespace Go.Proofs.Ytoncjoelkenjnaa.SS
open Go.RowKit Mem
set_option linter.unusedVariables false
set_option linter.unusedSimpArgs false

/-- The comparing closure g (with what it has captured, cb) goes by the key K, among the ints of D; it may draw. -/
structure CmpOK (K : Int → Int) (cf : Int → Int → Int) (D : Int → Prop) (g : Nat) (cb : Array Value) (b : Nat) (w0 : World) : Prop where
  enter : ∀ args w, (callFunc g args).run Try.prog w = .ok (.enter g args) w
  key : ∀ x y, D x → D y → (cf x y < 0 ↔ K x < K y)
  call : ∀ W, Mod (one b) w0 W → ∀ x y, D x → D y → Calls Try.prog g (#[.int .i64 x, .int .i64 y] ++ cb) W fun e w' => e = .returned (.int .i64 (cf x y)) ∧ ∃ n, w' = W.drewN n
theorem CmpOK.mod {K : Int → Int} {cf : Int → Int → Int} {D : Int → Prop} {g : Nat} {cb : Array Value} {b : Nat} {w w' : World} (h : CmpOK K cf D g cb b w) (m : Mod (one b) w w') : CmpOK K cf D g cb b w' :=
  ⟨h.enter, h.key, fun W m' => h.call W (m.and_then m')⟩
theorem modN {S : Nat → Prop} {w w' : World} (m : Mod S w w') (n : Nat) : Mod S w (w'.drewN n) := m.drewN n
/-- The outer loop of insertionSort. -/
def OI (K : Int → Int) (w : World) (b : Nat) (P L Q : List Int) (R : List Value) (v : Value) (wr : World) : Prop := ∃ (i : Nat) (S M U : List Int), L = S ++ U ∧ P.length + S.length = i ∧ 0 < S.length ∧ v = .int .i64 (i : Int) ∧ M.Perm S ∧ Srt K M ∧ IB wr b (P ++ M ++ U ++ Q) R ∧ Mod (one b) w wr
/-- The inner one. -/
def II (K : Int → Int) (w : World) (b : Nat) (P M U Q : List Int) (x : Int) (R : List Value) (v : Value) (wr : World) : Prop := ∃ (j : Nat) (M1 M2 : List Int), M = M1 ++ M2 ∧ P.length + M1.length = j ∧ v = .int .i64 (j : Int) ∧ (∀ m ∈ M2, K x < K m) ∧ IB wr b (P ++ (M1 ++ x :: M2) ++ U ++ Q) R ∧ Mod (one b) w wr
theorem IB.drewN {w : World} {b : Nat} {L : List Int} {R : List Value} (h : IB w b L R) (n : Nat) : IB (w.drewN n) b L R := IB.mod (S := fun _ => False) h ((Mod.refl _ _).drewN n) (fun h => h)
theorem IB.swapr {w : World} {b : Nat} {A C : List Int} {x y : Int} {R : List Value} (h : IB w b (A ++ y :: x :: C) R) {q j : Nat} (hq : q = A.length) (hj : q + 1 = j) :
    IB ((w.setCell ⟨b, j, none⟩ (.int .i64 y)).setCell ⟨b, q, none⟩ (.int .i64 x)) b (A ++ x :: y :: C) R := by
  have h2 := (Blk.put h j (.int .i64 y)).put q (.int .i64 x)
  unfold IB
  have e : ((List.map iv (A ++ y :: x :: C) ++ R).toArray.setIfInBounds j (.int .i64 y)).setIfInBounds q (.int .i64 x) = (List.map iv (A ++ x :: y :: C) ++ R).toArray := by
    rw [List.setIfInBounds_toArray, List.setIfInBounds_toArray]
    congr 1
    have e1 : List.map iv (A ++ y :: x :: C) ++ R = (A.map iv ++ [iv y]) ++ iv x :: (C.map iv ++ R) := by simp
    have e2 : List.map iv (A ++ x :: y :: C) ++ R = A.map iv ++ iv x :: iv y :: (C.map iv ++ R) := by simp
    have e3 : (A.map iv ++ [iv y]) ++ iv y :: (C.map iv ++ R) = A.map iv ++ iv y :: (iv y :: (C.map iv ++ R)) := by simp
    have h1 : j = (A.map iv ++ [iv y]).length := by simp; omega
    have h3 : q = (A.map iv).length := by simpa using hq
    rw [e1, e2, h1]
    have s1 := set_mid (A.map iv ++ [iv y]) (C.map iv ++ R) (iv x) (iv y)
    have s2 := set_mid (A.map iv) (iv y :: (C.map iv ++ R)) (iv y) (iv x)
    rw [h3]
    exact (congrArg (fun l => l.set (A.map iv).length (iv x)) (s1.trans e3)).trans s2
  rw [← e]
  exact h2
theorem measi {z i : Nat} (h : i < z) : z + 1 - (intOf (.int .i64 ((i + 1 : Nat) : Int))).toNat < z + 1 - (intOf (.int .i64 (i : Int))).toNat := by
  simp only [intOf]
  omega
theorem measj {a j q : Nat} (h : q + 1 = j) (ha : a < j) : (intOf (.int .i64 (q : Int))).toNat - a < (intOf (.int .i64 (j : Int))).toNat - a := by
  simp only [intOf]
  omega
set_option maxRecDepth 100000 in
set_option maxHeartbeats 2000000 in
theorem insertion_any {K : Int → Int} {cf : Int → Int → Int} {D : Int → Prop} {g : Nat} {cb : Array Value} {w : World} {b c : Nat} {P L Q : List Int} {R : List Value} (C : CmpOK K cf D g cb b w) (H : IB w b (P ++ L ++ Q) R) (hl : (P ++ L ++ Q).length ≤ 1048600) (hL : L.Pairwise (· < ·)) (hD : ∀ x ∈ L, D x) :
    Calls Try.prog 56 #[.slice (some ⟨b, 0, none⟩) (P ++ L ++ Q).length c, .int .i64 (P.length : Int), .int .i64 ((P.length + L.length : Nat) : Int), .func (.func g) #[] cb] w fun e w' => e = .returned (.tuple #[]) ∧ ∃ M, M.Perm L ∧ Srt K M ∧ IB w' b (P ++ M ++ Q) R ∧ Mod (one b) w w' := by
  obtain ⟨N, hN⟩ : ∃ N, N = (P ++ L ++ Q).length := ⟨_, rfl⟩
  obtain ⟨a, ha⟩ : ∃ a, a = P.length := ⟨_, rfl⟩
  obtain ⟨z, hz⟩ : ∃ z, z = P.length + L.length := ⟨_, rfl⟩
  have hNl : N = a + L.length + Q.length := by rw [hN, ha]; simp only [List.length_append]
  rw [← hN, ← hz, ← ha]
  rw [← hN] at hl
  have w1 : wrap64 ((a : Int) + 1) = ((a + 1 : Nat) : Int) := by rw [IntWalk.wrap64_in _ (by omega)]; omega
  have HN := Lib.hid (And.intro hN (And.intro ha (And.intro hz (And.intro hNl hl))))
  have HC := Lib.hid C
  have HL := Lib.hid (And.intro hL hD)
  by_cases hne : L = []
  · have g1 : ¬ (a : Int) + 1 < (z : Int) := by rw [hne] at hz; simp at hz; omega
    have HE := Lib.hid (show IB w b (P ++ [] ++ Q) R by rw [hne] at H; exact H)
    have HNE := Lib.hid hne
    clear C H hl hL hD hN ha hz hNl hne w1
    go_enter Try.func56, Try.ntmps56
    go_wp2_with fail
    go_loopw [8] (fun (v : Value) (wr : World) => v = .int .i64 (wrap64 ((a : Int) + 1)) ∧ wr = w) (fun _ _ => 0)
    case atStart => exact ⟨rfl, rfl⟩
    case round =>
      obtain ⟨rfl, rfl⟩ := hrel
      have w1 : wrap64 ((a : Int) + 1) = (a : Int) + 1 := by rw [IntWalk.wrap64_in _ (by have := HN.out; omega)]
      go_wp2_with fail
      go_end0
      exact ⟨rfl, [], by rw [HNE.out], List.Pairwise.nil, HE.out, Mod.refl _ _⟩
  obtain ⟨x0, U0, rfl⟩ := List.exists_cons_of_ne_nil hne
  have HI := Lib.hid (show OI K w b P (x0 :: U0) Q R (.int .i64 ((a + 1 : Nat) : Int)) w from ⟨a + 1, [x0], [x0], U0, rfl, by rw [ha]; rfl, by simp, rfl, List.Perm.refl _, List.pairwise_singleton _ _, by simpa using H, Mod.refl _ _⟩)
  generalize x0 :: U0 = L at *
  clear C H hl hL hD hN ha hz hNl hne
  go_enter Try.func56, Try.ntmps56
  go_wp2_with fail
  go_loopw [8, 9] (fun (v8 v9 : Value) (wr : World) => OI K w b P L Q R v8 wr) (fun v8 _ _ => z + 1 - (intOf v8).toNat)
  case atStart => rw [w1]; exact HI.out
  case round =>
    clear HI w1
    obtain ⟨i, S, M, U, hSU, hiS, hS, rfl, hperm, hsrt, hib, hM⟩ := hrel
    have HM := Lib.hid hM
    have HB := Lib.hid hib
    have HS := Lib.hid (And.intro hSU (And.intro hiS (And.intro hS (And.intro hperm hsrt))))
    clear hM hib hSU hiS hS hperm hsrt
    by_cases hlt : i < z
    · have g1 : (i : Int) < (z : Int) := by omega
      have w1 : wrap64 ((i : Int) + 1) = (i : Int) + 1 := by rw [IntWalk.wrap64_in _ (by have := HN.out; omega)]
      obtain ⟨x, U', rfl⟩ : ∃ x U', U = x :: U' := by
        cases U with
        | nil => exfalso; have h1 := HS.out.1; have h2 := HS.out.2.1; have h3 := HN.out.2.2.1; rw [List.append_nil] at h1; rw [h1] at h3; omega
        | cons x t => exact ⟨x, t, rfl⟩
      have hML : M.length = S.length := HS.out.2.2.2.1.length_eq
      have HJ := Lib.hid (show II K w b P M U' Q x R (.int .i64 (i : Int)) wr from ⟨i, M, [], by simp, by rw [hML]; exact HS.out.2.1, rfl, by simp, by have h := HB.out; simpa using h, HM.out⟩)
      have HK := Lib.hid hlt
      have hDx : D x := HL.out.2 x (by rw [HS.out.1]; simp)
      have hDM : ∀ m ∈ M, D m := fun m hm => HL.out.2 m (by rw [HS.out.1]; exact List.mem_append_left _ (HS.out.2.2.2.1.mem_iff.1 hm))
      have hMx : ∀ m ∈ M, m < x := fun m hm => by
        have h := HL.out.1
        rw [HS.out.1] at h
        exact (List.pairwise_append.1 h).2.2 m (HS.out.2.2.2.1.mem_iff.1 hm) x (by simp)
      have HD := Lib.hid (And.intro hDx (And.intro hDM (And.intro hMx hML)))
      clear hlt hML hDx hDM hMx HB
      go_wp2_with fail
      go_loopw [9] (fun (v : Value) (wr2 : World) => II K w b P M U' Q x R v wr2) (fun v _ => (intOf v).toNat - a)
      case atStart => exact HJ.out
      case round =>
        clear HJ
        obtain ⟨j, M1, M2, hM12, hj, rfl, hM2, hib, hM⟩ := hrel
        have HM2 := Lib.hid hM
        have HB2 := Lib.hid hib
        have HMM := Lib.hid (And.intro hM12 (And.intro hj hM2))
        clear hM hib hM12 hj hM2
        have hout := fun (hs : M1 = [] ∨ ∃ M y, M1 = M ++ [y] ∧ ¬ K x < K y) (W : World) (m : Mod (one b) wr W) (hb : IB W b (P ++ (M1 ++ x :: M2) ++ U' ++ Q) R) => (show OI K w b P L Q R (.int .i64 ((i + 1 : Nat) : Int)) W from
          ⟨i + 1, S ++ [x], M1 ++ x :: M2, U', by rw [HS.out.1]; simp, by rw [List.length_append, ← Nat.add_assoc, HS.out.2.1]; rfl, by simp, rfl, by
            have h1 := HS.out.2.2.2.1
            rw [HMM.out.1] at h1
            exact (List.perm_middle.trans ((h1.cons x).trans (List.perm_append_singleton x S).symm)), put_in (by rw [← HMM.out.1]; exact HS.out.2.2.2.2) HMM.out.2.2 (fun m hm => HD.out.2.2.1 m (by rw [HMM.out.1]; exact List.mem_append_left _ hm)) hs, hb, HM2.out.and_then m⟩)
        have HOUT := Lib.hid hout
        clear hout
        have w1 : wrap64 ((i : Int) + 1) = ((i + 1 : Nat) : Int) := by rw [IntWalk.wrap64_in _ (by have := HN.out; have := HK.out; omega)]; omega
        have hjz : j < N := by
          have h1 := HMM.out.2.1; have h2 := HMM.out.1; have h3 := HD.out.2.2.2; have h4 := HN.out; have h5 := HS.out.2.1; have h6 := HK.out
          have h7 := congrArg List.length h2
          rw [List.length_append] at h7
          omega
        rcases List.eq_nil_or_concat M1 with hM1 | ⟨M1', y, hM1⟩
        · have hja : j = a := by have h1 := HMM.out.2.1; rw [hM1] at h1; have := HN.out.2.1; simp at h1; omega
          have g2 : decide (a < j) = false := decide_eq_false (by omega)
          have g3 : ¬ (a : Int) < (j : Int) := by omega
          have HM1 := Lib.hid hM1
          clear hja hM1 hjz
          go_wp2_with fail
          go_quiet (fail)
          go_wp2
          go_roundw
          case rel => rw [w1]; exact HOUT.out (Or.inl HM1.out) _ ((Mod.refl _ _).drewN _) (HB2.out.drewN _)
          case measure => rw [w1]; exact measi HK.out
        · rw [List.concat_eq_append] at hM1
          obtain ⟨q, hq⟩ : ∃ q, q = a + M1'.length := ⟨_, rfl⟩
          have hqj : q + 1 = j := by have h1 := HMM.out.2.1; rw [hM1, List.length_append] at h1; have := HN.out.2.1; simp at h1; omega
          have hL1 : P ++ (M1 ++ x :: M2) ++ U' ++ Q = (P ++ M1' ++ [y]) ++ x :: (M2 ++ U' ++ Q) := by rw [hM1]; simp
          have hL2 : P ++ (M1 ++ x :: M2) ++ U' ++ Q = (P ++ M1') ++ y :: x :: (M2 ++ U' ++ Q) := by rw [hM1]; simp
          have hqP : q = (P ++ M1').length := by rw [List.length_append, hq]; have := HN.out.2.1; omega
          have hb := HB2.out
          rw [hL1] at hb
          have cj : wr.cell? ⟨b, j, none⟩ = some (.int .i64 x) := hb.at_ (by rw [List.length_append, ← hqP]; simp; omega)
          rw [← hL1, hL2] at hb
          have cq : wr.cell? ⟨b, q, none⟩ = some (.int .i64 y) := hb.at_ hqP
          have hDy : D y := HD.out.2.1 y (by rw [HMM.out.1, hM1]; simp)
          have hcall : ∀ n, Calls Try.prog g (#[.int .i64 x, .int .i64 y] ++ cb) (wr.drewN n) fun e w' => e = .returned (.int .i64 (cf x y)) ∧ ∃ m, w' = (wr.drewN n).drewN m := fun n => HC.out.call _ (HM2.out.drewN n) x y HD.out.1 hDy
          have hkey := HC.out.key x y HD.out.1 hDy
          have g2 : decide (a < j) = true := decide_eq_true (by omega)
          have g3 : (a : Int) < (j : Int) := by omega
          have bj : (j : Int) < (N : Int) := by omega
          have bq : (q : Int) < (N : Int) := by omega
          have w2 : wrap64 ((j : Int) - 1) = (q : Int) := by rw [IntWalk.wrap64_in _ (by have := HN.out; omega)]; omega
          have w3 : IntKind.i64.wrap ((j : Int) - 1) = (q : Int) := by rw [IntKind.wrap_i64]; have := HN.out; omega
          have nj : ¬ (j : Int) < 0 := by omega
          have nq : ¬ (q : Int) < 0 := by omega
          have HQ := Lib.hid (And.intro hqj (And.intro hM1 (And.intro hL2 (And.intro hqP hb))))
          have eg := HC.out.enter
          clear hL1 hL2 hqP hb hDy hqj hq hM1 hjz
          by_cases hlt : cf x y < 0
          · have hxy := Lib.hid (hkey.1 hlt)
            have hd : decide (cf x y < 0) = true := decide_eq_true hlt
            clear hkey
            go_wp2_with fail
            go_quiet (first | (go_at_fn g; refine Calls.quiet_of (hcall _)))
            have r1 : (wr.drewN nq).frozen? ⟨b, j, none⟩ = false := (HB2.out.drewN nq).free j
            have r2 : (wr.drewN nq).frozen? ⟨b, q, none⟩ = false := (HB2.out.drewN nq).free q
            have hnej : j ≠ q := by have := HQ.out.1; omega
            have c1 : (wr.drewN nq).cell? ⟨b, j, none⟩ = some (.int .i64 x) := by simpa using cj
            have c2 : (wr.drewN nq).cell? ⟨b, q, none⟩ = some (.int .i64 y) := by simpa using cq
            have hE := Lib.hid ((IB.drewN HQ.out.2.2.2.2 nq).swapr HQ.out.2.2.2.1 HQ.out.1)
            have HM3 := Lib.hid (HM2.out.drewN nq)
            clear hcall cj cq
            generalize wr.drewN nq = W at *
            go_wp2_with fail
            go_region
            go_wp2
            go_roundw
            case rel => exact ⟨q, M1', y :: M2, by rw [HMM.out.1, HQ.out.2.1]; simp, by rw [← List.length_append]; exact HQ.out.2.2.2.1.symm, rfl, fun m hm => by
              rcases List.mem_cons.1 hm with rfl | hm
              · exact hxy.out
              · exact HMM.out.2.2 m hm, by have h := hE.out.drew; simpa using h, (mod_swap HM3.out _ _ _ _).drew⟩
            case measure => exact measj HQ.out.1 (by omega)
          · have hxy := Lib.hid (Int.not_lt.1 (fun h => hlt (hkey.2 h)))
            have hd : decide (cf x y < 0) = false := decide_eq_false hlt
            clear hkey
            go_wp2_with fail
            go_quiet (first | (go_at_fn g; refine Calls.quiet_of (hcall _)))
            go_wp2
            go_roundw
            case rel => rw [w1]; exact HOUT.out (Or.inr ⟨_, y, HQ.out.2.1, hxy.out⟩) _ ((Mod.refl _ _).drewN _) (HB2.out.drewN _)
            case measure => rw [w1]; exact measi HK.out
    · have hE := Lib.hid (show ∃ M, M.Perm L ∧ Srt K M ∧ IB wr b (P ++ M ++ Q) R by
        obtain rfl : U = [] := by
          cases U with
          | nil => rfl
          | cons x t => exfalso; have h1 := HS.out.1; have h2 := HS.out.2.1; have h3 := HN.out.2.2.1; have h4 := congrArg List.length h1; simp at h4; omega
        have h1 := HS.out.1
        rw [List.append_nil] at h1
        exact ⟨M, by rw [h1]; exact HS.out.2.2.2.1, HS.out.2.2.2.2, by have h := HB.out; simpa using h⟩)
      have g1 : ¬ (i : Int) < (z : Int) := by omega
      clear hlt
      go_wp2_with fail
      go_end0
      obtain ⟨M2, h1, h2, h3⟩ := hE.out
      exact ⟨rfl, M2, h1, h2, by simpa using h3, HM.out⟩
end Go.Proofs.Ytoncjoelkenjnaa.SS
