/- keep.Plan: the walk. -/
import Derived.Test.YtoncjoelkenjnaaPlD
import Derived.Laws.BitsAllLaws
namespace Go.Proofs.Ytoncjoelkenjnaa.PL
open Go.RowKit Mem Go.Proofs.Ytoncjoelkenjnaa.Days Go.Proofs.Ytoncjoelkenjnaa.SS
set_option linter.unusedVariables false
set_option linter.unusedSimpArgs false

/-- What Plan answers. -/
def PlanP (w : World) (n : Nat) (nm : Nat → ByteArray) (tm : Nat → Int) (l h d k m y v : Int) (e : Ending) (w' : World) : Prop :=
  Mod no w w' ∧
  ((4096 < n ∧ e = .returned (.tuple #[.slice none 0 0, .int .i64 4])) ∨
   (n ≤ 4096 ∧ rightB l h d k m y v = false ∧ e = .returned (.tuple #[.slice none 0 0, .int .i64 280])) ∨
   (n ≤ 4096 ∧ rightB l h d k m y v = true ∧ allIn n tm = false ∧ e = .returned (.tuple #[.slice none 0 0, .int .i64 281])) ∨
   (n ≤ 4096 ∧ rightB l h d k m y v = true ∧ allIn n tm = true ∧ ∃ g M, w.heap.size ≤ g ∧ e = .returned (.tuple #[.slice (some ⟨g, 0, none⟩) n n, .int .i64 0]) ∧ Sd (keyT tm) M (ints n) ∧ KB w' g n nm (planW tm M l h d k m y v)))
/-- The first loop: names and places are laid. -/
def P1 (w : World) (go gr n : Nat) (nm : Nat → ByteArray) (v : Value) (wr : World) : Prop := ∃ j : Nat, j ≤ n ∧ v = .int .i64 (j : Int) ∧ KB wr go n (fun i => if i < j then nm i else ⟨#[]⟩) (fun _ => 0) ∧ IB wr gr (ints j ++ List.replicate (n - j) 0) [] ∧ Mod (fun q => q = go ∨ q = gr) w wr
/-- What stands from the set-up on: the boxes of the two arguments; where the two rows lie. -/
structure PS (w w4 : World) (gs go gr n : Nat) (A : Option Addr) (c : Nat) (l h d k m y v : Int) : Prop where
  b0 : Blk w4 gs 48 #[.slice A n c]
  b1 : Blk w4 (gs + 1) 50 #[.int .i16 l, .int .i16 h, .int .i16 d, .int .i16 k, .int .i16 m, .int .i16 y, .int .i64 v]
  m : Mod no w w4
  s1 : w.heap.size ≤ gs
  s2 : gs + 1 < go
  s3 : go < gr
/-- What stands from the sorting on: the boxes, what is kept, the order. -/
structure PW (w wr : World) (gs go gr n : Nat) (A : Option Addr) (c : Nat) (nm : Nat → ByteArray) (ws : Nat → Int) (M : List Int) (l h d k m y v : Int) : Prop where
  b0 : Blk wr gs 48 #[.slice A n c]
  b1 : Blk wr (gs + 1) 50 #[.int .i16 l, .int .i16 h, .int .i16 d, .int .i16 k, .int .i16 m, .int .i16 y, .int .i64 v]
  kb : KB wr go n nm ws
  ib : IB wr gr M []
  m : Mod no w wr
theorem PW.mod {S : Nat → Prop} {w w' wr : World} {gs go gr n : Nat} {A : Option Addr} {c : Nat} {nm : Nat → ByteArray} {ws : Nat → Int} {M : List Int} {l h d k m y v : Int} (H : PW w wr gs go gr n A c nm ws M l h d k m y v) (hm : Mod S wr w') (h1 : ¬ S gs) (h2 : ¬ S (gs + 1)) (h3 : ¬ S go) (h4 : ¬ S gr) (h5 : ∀ q, q < w.heap.size → ¬ S q) : PW w w' gs go gr n A c nm ws M l h d k m y v :=
  ⟨H.b0.mod hm h1, H.b1.mod hm h2, H.kb.mod hm h3, H.ib.mod hm h4, H.m.trans hm (fun q hq c => (h5 q hq c).elim)⟩
theorem PartsAt.facts {w0 w : World} {g kc gr : Nat} {l h d k m y : Int} (H : PartsAt w0 w g kc l h d k m y) (hr : gr < w0.heap.size) : gr < g ∧ gr < kc ∧ True := ⟨by have := H.new1; omega, by have := H.new2; omega, trivial⟩
theorem PartsAt.mod {S : Nat → Prop} {w0 w w' : World} {g kc : Nat} {l h d k m y : Int} (H : PartsAt w0 w g kc l h d k m y) (hm : Mod S w w') (h1 : ¬ S g) (h2 : ¬ S kc) : PartsAt w0 w' g kc l h d k m y :=
  ⟨H.blk.mod hm h1, (hm.cell (p := ⟨kc, 0, none⟩) (cell_lt H.fn) h2).trans H.fn, H.new1, H.new2⟩
theorem part_at {w0 w : World} {g kc : Nat} {l h d k m y : Int} (H : PartsAt w0 w g kc l h d k m y) {q : Nat} (hq : q < 6) : ∃ (fn : Nat) (cb : Array Value), w.cell? ⟨g, q * 3, none⟩ = some (.int .u8 ((2 : Int) ^ q)) ∧ w.cell? ⟨g, q * 3 + 1, none⟩ = some (.int .i16 (mostF l h d k m y q)) ∧ w.cell? ⟨g, q * 3 + 2, none⟩ = some (.func (.func fn) #[] cb) ∧
    (∀ args w, (callFunc fn args).run Try.prog w = .ok (.enter fn args) w) ∧ ∀ W p t, W.cell? ⟨kc, 0, none⟩ = some (.func (.func 48) #[] #[]) → -62135596800 ≤ t → t ≤ 253402300799 → Calls Try.prog fn (#[.int .i64 p, .int .i64 t] ++ cb) W fun e w' => e = .returned (.int .i64 (pb q p t)) ∧ Below W.heap.size W w' := by
  have hc := fun i => H.blk.cell i
  match q, hq with
  | 0, _ => exact ⟨49, #[], (hc 0).trans rfl, (hc 1).trans rfl, (hc 2).trans rfl, fun _ _ => rfl, fun W p t _ h1 h2 => b0_any p t W⟩
  | 1, _ => exact ⟨50, #[], (hc 3).trans rfl, (hc 4).trans rfl, (hc 5).trans rfl, fun _ _ => rfl, fun W p t _ h1 h2 => b1_any p t W h1 h2⟩
  | 2, _ => exact ⟨51, #[], (hc 6).trans rfl, (hc 7).trans rfl, (hc 8).trans rfl, fun _ _ => rfl, fun W p t _ h1 h2 => b2_any p t W h1 h2⟩
  | 3, _ => exact ⟨52, #[], (hc 9).trans rfl, (hc 10).trans rfl, (hc 11).trans rfl, fun _ _ => rfl, fun W p t _ h1 h2 => b3_any p t W h1 h2⟩
  | 4, _ => exact ⟨53, #[.pointer (some ⟨kc, 0, none⟩)], (hc 12).trans rfl, (hc 13).trans rfl, (hc 14).trans rfl, fun _ _ => rfl, fun W p t hk h1 h2 => b4_any p t h1 h2 hk⟩
  | 5, _ => exact ⟨54, #[.pointer (some ⟨kc, 0, none⟩)], (hc 15).trans rfl, (hc 16).trans rfl, (hc 17).trans rfl, fun _ _ => rfl, fun W p t hk h1 h2 => b5_any p t h1 h2 hk⟩
/-- The loop over the parts. -/
def P2 (w w5 : World) (gs go gr gp kc n : Nat) (A : Option Addr) (c : Nat) (nm : Nat → ByteArray) (tm : Nat → Int) (M : List Int) (l h d k m y v : Int) (vq : Value) (wr : World) : Prop :=
  ∃ q : Nat, q ≤ 6 ∧ vq = .int .i64 (q : Int) ∧ PW w wr gs go gr n A c nm (partsW tm M (mostF l h d k m y) q) M l h d k m y v ∧ PartsAt w5 wr gp kc l h d k m y
/-- The last loop: by the age. -/
def P4 (w : World) (gs go gr n : Nat) (A : Option Addr) (c : Nat) (nm : Nat → ByteArray) (tm : Nat → Int) (M : List Int) (l h d k m y v : Int) (va : Value) (wr : World) : Prop :=
  ∃ (a : Nat) (M1 M2 : List Int) (ws : Nat → Int), M = M1 ++ M2 ∧ M1.length = a ∧ va = .int .i64 (a : Int) ∧ witW tm v (tm ((M.head?.getD 0).toNat)) M2 ws = planW tm M l h d k m y v ∧ PW w wr gs go gr n A c nm ws M l h d k m y v ∧ (∀ i, 0 ≤ ws i ∧ ws i < 128) ∧ (∀ x ∈ M2, ws x.toNat < 64)
theorem sd_ne {K : Int → Int} {M : List Int} {n : Nat} (h : Sd K M (ints n)) : M.Pairwise (· ≠ ·) := by
  have h1 : (ints n).Nodup := (ints_rise n).imp (fun h => by omega)
  exact h.perm.nodup_iff.2 h1
theorem sd_pos {K : Int → Int} {M : List Int} {n : Nat} (h : Sd K M (ints n)) : ∀ x ∈ M, 0 ≤ x := fun x hx => (mem_ints.1 (h.perm.mem_iff.1 hx)).1
/-- The loop over the shots, within a part. -/
def P3 (w w5 : World) (gs go gr gp kc gq n : Nat) (A : Option Addr) (c : Nat) (nm : Nat → ByteArray) (tm : Nat → Int) (M : List Int) (l h d k m y v : Int) (q fn : Nat) (cb : Array Value) (mo wy : Int) (vk vl va : Value) (wr : World) : Prop :=
  ∃ (a : Nat) (M1 M2 : List Int) (kept last : Int) (ws : Nat → Int), M = M1 ++ M2 ∧ M1.length = a ∧ vk = .int .i16 kept ∧ vl = .int .i64 last ∧ va = .int .i64 (a : Int) ∧ 0 ≤ kept ∧ kept ≤ (a : Int) ∧
    inner mo wy (bkt tm q) a M2 kept last ws = partsW tm M (mostF l h d k m y) (q + 1) ∧ PW w wr gs go gr n A c nm ws M l h d k m y v ∧ PartsAt w5 wr gp kc l h d k m y ∧ Blk wr gq 83 #[.int .u8 wy, .int .i16 mo, .func (.func fn) #[] cb] ∧
    (∀ i, 0 ≤ ws i ∧ ws i < 2 * wy) ∧ (∀ x ∈ M2, ws x.toNat < wy)
theorem below_keep {w w' : World} (h : Below w.heap.size w w') : ∀ a v, w.cell? a = some v → w'.cell? a = some v := fun a v hv => (h.cell (cell_lt hv)).trans hv
theorem inner_yes {mo wy : Int} {b : Nat → Nat → Int} {a i : Nat} {M : List Int} {kept last bv : Int} {ws : Nat → Int} (hb : b a i = bv) (h : kept < mo) (h2 : a = 0 ∨ bv ≠ last) : inner mo wy b a ((i : Int) :: M) kept last ws = inner mo wy b (a + 1) M (kept + 1) bv (updW ws i (ws i + wy)) := by
  subst hb
  conv => lhs; unfold inner
  rw [Int.toNat_natCast, if_pos ⟨h, h2⟩]
theorem inner_no {mo wy : Int} {b : Nat → Nat → Int} {a i : Nat} {M : List Int} {kept last bv : Int} {ws : Nat → Int} (hb : b a i = bv) (h : ¬ (kept < mo ∧ (a = 0 ∨ bv ≠ last))) : inner mo wy b a ((i : Int) :: M) kept last ws = inner mo wy b (a + 1) M kept bv ws := by
  subst hb
  conv => lhs; unfold inner
  rw [Int.toNat_natCast, if_neg h]
theorem PW.put {w wr : World} {gs go gr n : Nat} {A : Option Addr} {c : Nat} {nm : Nat → ByteArray} {ws : Nat → Int} {M : List Int} {l h d k m y v : Int} (H : PW w wr gs go gr n A c nm ws M l h d k m y v) {i : Nat} (hi : i < n) (h1 : w.heap.size ≤ gs) (h2 : gs + 1 < go) (h3 : go < gr) (u : Int) : PW w (wr.setCell ⟨go, i * 2 + 1, none⟩ (.int .u8 u)).drew gs go gr n A c nm (updW ws i u) M l h d k m y v := by
  have hm : Mod (one go) wr (wr.setCell ⟨go, i * 2 + 1, none⟩ (.int .u8 u)) := (Mod.refl (one go) _).set (p := ⟨go, i * 2 + 1, none⟩) (fun _ => rfl) _
  have n1 : ¬ one go gs := fun c => by simp only [one] at c; omega
  have n2 : ¬ one go (gs + 1) := fun c => by simp only [one] at c; omega
  have n3 : ¬ one go gr := fun c => by simp only [one] at c; omega
  have hk : KB (wr.setCell ⟨go, i * 2 + 1, none⟩ (.int .u8 u)).drew go n nm (updW ws i u) := (H.kb.put hi u).mod (S := no) (Mod.refl no _).drew (fun c => c)
  exact ⟨H.b0.mod hm.drew n1, H.b1.mod hm.drew n2, hk, IB.mod H.ib hm.drew n3, (H.m.trans hm (fun q hq c => by simp only [one] at c; omega)).drew⟩
theorem PW.putp {w wr : World} {gs go gr n : Nat} {A : Option Addr} {c : Nat} {nm : Nat → ByteArray} {ws : Nat → Int} {M : List Int} {l h d k m y v : Int} (H : PW w wr gs go gr n A c nm ws M l h d k m y v) {i : Nat} (hi : i < n) (h1 : w.heap.size ≤ gs) (h2 : gs + 1 < go) (h3 : go < gr) (u : Int) : PW w (wr.setCell ⟨go, i * 2 + 1, none⟩ (.int .u8 u)) gs go gr n A c nm (updW ws i u) M l h d k m y v := by
  have hm : Mod (one go) wr (wr.setCell ⟨go, i * 2 + 1, none⟩ (.int .u8 u)) := (Mod.refl (one go) _).set (p := ⟨go, i * 2 + 1, none⟩) (fun _ => rfl) _
  have n1 : ¬ one go gs := fun c => by simp only [one] at c; omega
  have n2 : ¬ one go (gs + 1) := fun c => by simp only [one] at c; omega
  have n3 : ¬ one go gr := fun c => by simp only [one] at c; omega
  exact ⟨H.b0.mod hm n1, H.b1.mod hm n2, H.kb.put hi u, IB.mod H.ib hm n3, H.m.trans hm (fun q hq c => by simp only [one] at c; omega)⟩
theorem wit_yes {tm : Nat → Int} {v t0 : Int} {i : Nat} {M : List Int} {ws : Nat → Int} (h : 0 < v ∧ t0 - tm i ≤ v) : witW tm v t0 ((i : Int) :: M) ws = witW tm v t0 M (updW ws i (ws i + 64)) := by
  conv => lhs; unfold witW
  rw [Int.toNat_natCast, if_pos h]
theorem wit_no {tm : Nat → Int} {v t0 : Int} {i : Nat} {M : List Int} {ws : Nat → Int} (h : ¬ (0 < v ∧ t0 - tm i ≤ v)) : witW tm v t0 ((i : Int) :: M) ws = witW tm v t0 M ws := by
  conv => lhs; unfold witW
  rw [Int.toNat_natCast, if_neg h]
theorem PartsAt.drew {w0 w : World} {g kc : Nat} {l h d k m y : Int} (H : PartsAt w0 w g kc l h d k m y) : PartsAt w0 w.drew g kc l h d k m y := H.mod (S := no) (Mod.refl no _).drew (fun c => c) (fun c => c)
theorem or_pow {x wy : Int} {q : Nat} (hq : q ≤ 6) (h0 : 0 ≤ x) (h1 : x < wy) (hw : wy = (2 : Int) ^ q) : bits .or .u8 x wy = x + wy := by
  have hp : (2 : Nat) ^ q ≤ 2 ^ 6 := Nat.pow_le_pow_right (by decide) hq
  have hc : wy = ((2 ^ q : Nat) : Int) := by rw [hw]; norm_cast
  have hlt : x.toNat < 2 ^ q := by omega
  rw [u8_or x wy h0 (by omega) (by omega) (by omega), hc, Int.toNat_natCast]
  have h := Nat.two_pow_add_eq_or_of_lt hlt 1
  rw [Nat.mul_one] at h
  rw [Nat.or_comm, ← h]
  omega
theorem rest_ne {K : Int → Int} {M M1 M3 : List Int} {n i : Nat} {x : Int} (h : Sd K M (ints n)) (hMM : M = M1 ++ (i : Int) :: M3) (hx : x ∈ M3) : ¬ x.toNat = i := by
  have h1 := sd_ne h
  rw [hMM] at h1
  have h2 := (List.pairwise_cons.1 (List.pairwise_append.1 h1).2.1).1 x hx
  have h3 := sd_pos h x (by rw [hMM]; exact List.mem_append_right _ (List.mem_cons_of_mem _ hx))
  omega
theorem IB.put1 {w : World} {b : Nat} {A C : List Int} {x : Int} {R : List Value} (h : IB w b (A ++ x :: C) R) {i : Nat} (hi : i = A.length) (y : Int) : IB (w.setCell ⟨b, i, none⟩ (.int .i64 y)) b (A ++ y :: C) R := by
  have h2 := Blk.put h i (.int .i64 y)
  unfold IB
  have e : (List.map iv (A ++ x :: C) ++ R).toArray.setIfInBounds i (.int .i64 y) = (List.map iv (A ++ y :: C) ++ R).toArray := by
    rw [List.setIfInBounds_toArray]
    congr 1
    have e1 : List.map iv (A ++ x :: C) ++ R = A.map iv ++ iv x :: (C.map iv ++ R) := by simp
    have e2 : List.map iv (A ++ y :: C) ++ R = A.map iv ++ iv y :: (C.map iv ++ R) := by simp
    rw [e1, e2, hi]
    have := set_mid (A.map iv) (C.map iv ++ R) (iv x) (iv y)
    rw [List.length_map] at this
    exact this
  rw [← e]
  exact h2
set_option maxRecDepth 100000 in
set_option maxHeartbeats 8000000 in
theorem plan_any {w : World} {A : Option Addr} {b o n c : Nat} {nm : Nat → ByteArray} {tm : Nat → Int} {l h d k m y v : Int} (H : ShA w A b o n nm tm) (hn : n ≤ 1048600)
    (hl : l ≤ 32767) (hh : h ≤ 32767) (hd : d ≤ 32767) (hk : k ≤ 32767) (hm : m ≤ 32767) (hy : y ≤ 32767) (hv : v ≤ 9223372036854775807) :
    Calls Try.prog 20 #[.slice A n c, rv l h d k m y v] w (PlanP w n nm tm l h d k m y v) := by
  have HH := Lib.hid H
  have HN := Lib.hid hn
  have HM := Lib.hid (And.intro hl (And.intro hh (And.intro hd (And.intro hk (And.intro hm (And.intro hy hv))))))
  have HR := Lib.hid (fun W => right_any l h d k m y v W)
  have HPT := Lib.hid (fun W => parts_any l h d k m y v W)
  unfold rv at HR HPT ⊢
  clear H hn hl hh hd hk hm hy hv
  by_cases hnn : 4096 < n
  · have g1 : (4096 : Int) < (n : Int) := by omega
    go_enter Try.func20, Try.ntmps20
    go_wp2_with fail
    go_ret2
    exact ⟨((Mod.refl no w).alloc _).alloc _, .inl ⟨hnn, rfl⟩⟩
  have g1 : ¬ (4096 : Int) < (n : Int) := by omega
  have HNN := Lib.hid (Nat.le_of_not_lt hnn)
  clear hnn
  by_cases hr : rightB l h d k m y v = true
  rotate_left
  · have hr' : rightB l h d k m y v = false := by simpa using hr
    go_enter Try.func20, Try.ntmps20
    go_wp2_with (go_at_call 35; refine (HR.out _).mono ?_; rintro e w1 ⟨rfl, hb1⟩; rw [hr'])
    go_ret2
    exact ⟨(((Mod.refl no w).alloc _).alloc _).and_then (Mod.of_new hb1), .inr (.inl ⟨HNN.out, hr', rfl⟩)⟩
  by_cases hi : allIn n tm = true
  rotate_left
  · have hi' : allIn n tm = false := by simpa using hi
    go_enter Try.func20, Try.ntmps20
    go_wp2_with (first
      | (go_at_call 35; refine (HR.out _).mono ?_; rintro e w1 ⟨rfl, hb1⟩; rw [hr]; have hm1 : Mod no w w1 := (((Mod.refl no w).alloc _).alloc _).and_then (Mod.of_new hb1); obtain ⟨hc1, hc2⟩ := bcell hb1)
      | (go_at_call 36; refine (contains_any (HH.out.mod hm1 (fun _ c => c)) HN.out).mono ?_; rintro e w2 ⟨rfl, hm2⟩; rw [hi']))
    go_ret2
    exact ⟨hm1.and_then hm2, .inr (.inr (.inl ⟨HNN.out, hr, hi', rfl⟩))⟩
  obtain ⟨i0, hi0, hz0, hz1, hz2⟩ := info_parts kept_info
  have HI0 := Lib.hid (And.intro hi0 (And.intro hz0 (And.intro hz1 hz2)))
  clear hi0 hz0 hz1 hz2
  obtain ⟨i1, hi1, hz0, hz1, hz2⟩ := info_parts int_info
  have HI1 := Lib.hid (And.intro hi1 (And.intro hz0 (And.intro hz1 hz2)))
  clear hi1 hz0 hz1 hz2
  go_enter Try.func20, Try.ntmps20
  go_wp2_with (first
    | (go_at_call 35; refine (HR.out _).mono ?_; rintro e w1 ⟨rfl, hb1⟩; rw [hr]
       have hm1 : Mod no w w1 := (((Mod.refl no w).alloc _).alloc _).and_then (Mod.of_new hb1)
       have HB := Lib.hid (show Blk w1 w.heap.size 48 #[.slice A n c] ∧ Blk w1 (w.heap.size + 1) 50 #[.int .i16 l, .int .i16 h, .int .i16 d, .int .i16 k, .int .i16 m, .int .i16 y, .int .i64 v] from ⟨((Blk.new w _ _).alloc _).mod (S := no) (Mod.of_new hb1) (fun c => c), (Blk.new_at _ _ _ (by simp)).mod (S := no) (Mod.of_new hb1) (fun c => c)⟩)
       obtain ⟨hc1, hc2⟩ := bcell hb1)
    | (go_at_call 36; refine (contains_any (HH.out.mod hm1 (fun _ c => c)) HN.out).mono ?_; rintro e w2 ⟨rfl, hm2⟩; rw [hi]
       have HB2 := Lib.hid (show Blk w2 w.heap.size 48 #[.slice A n c] ∧ Blk w2 (w.heap.size + 1) 50 #[.int .i16 l, .int .i16 h, .int .i16 d, .int .i16 k, .int .i16 m, .int .i16 y, .int .i64 v] ∧ Mod no w w2 from ⟨HB.out.1.mod hm2 (fun c => c), HB.out.2.mod hm2 (fun c => c), hm1.and_then hm2⟩)
       have s2 : w2.cell? ⟨w.heap.size, 0, none⟩ = some (.slice A n c) := HB2.out.1.cell 0
       clear hb1 hm1 hm2 HB hc1 hc2)
    | (at_make
       refine wpList_make_full _ rfl (.tmp 31) (.tmp 31) 51 rfl 0 58 i0 (.agg #[.string ⟨#[]⟩, .int .u8 0]) 2 Try.underlying51 HI0.out.1 HI0.out.2.1 HI0.out.2.2.1 .i64 .i64 (n : Int) (n : Int) n rfl rfl rfl rfl ?_ ?_ (Nat.zero_le _) ?_
       · rw [HI0.out.2.2.2]; have := HN.out; omega
       · have := HN.out; simp only [maxLen]; omega
       intro w3 hown hg1
       have hb3 := own_blk hown
       have hm3 : Mod no w2 w3 := Mod.of_grown hg1 (fun _ _ e => by cases e)
       have HK3 := Lib.hid (And.intro (made_kept w3 _ n (by simpa using hb3)) hm3)
       have s3 : w3.cell? ⟨w.heap.size, 0, none⟩ = some (.slice A n c) := (HB2.out.1.mod hm3 (fun c => c)).cell 0
       clear hown hg1 hb3 hm3 s2)
    | (at_make
       refine wpList_make_full _ rfl (.tmp 34) (.tmp 34) 76 rfl 0 3 i1 (.int .i64 0) 1 Try.underlying76 HI1.out.1 HI1.out.2.1 HI1.out.2.2.1 .i64 .i64 (n : Int) (n : Int) n rfl rfl rfl rfl ?_ ?_ (Nat.zero_le _) ?_
       · rw [HI1.out.2.2.2]; have := HN.out; omega
       · have := HN.out; simp only [maxLen]; omega
       intro w4 hown hg1
       have hb4 := own_blk hown
       rw [made_int] at hb4
       have hm4 : Mod no w3 w4 := Mod.of_grown hg1 (fun _ _ e => by cases e)
       have HK4 := Lib.hid (And.intro hb4 hm4)
       have s4 : w4.cell? ⟨w.heap.size, 0, none⟩ = some (.slice A n c) := ((HB2.out.1.mod HK3.out.2 (fun c => c)).mod hm4 (fun c => c)).cell 0
       clear hown hg1 hb4 hm4 s3))
  obtain ⟨gs, hgs⟩ : ∃ gs, gs = w.heap.size := ⟨_, rfl⟩
  obtain ⟨go, hgo⟩ : ∃ go, go = w2.heap.size := ⟨_, rfl⟩
  obtain ⟨gr, hgr⟩ : ∃ gr, gr = w3.heap.size := ⟨_, rfl⟩
  rw [← hgs] at HB2 s4 ⊢
  rw [← hgo] at HK3 ⊢
  rw [← hgr] at HK4 ⊢
  have HS := Lib.hid (show PS w w4 gs go gr n A c l h d k m y v from ⟨(HB2.out.1.mod HK3.out.2 (fun c => c)).mod HK4.out.2 (fun c => c), (HB2.out.2.1.mod HK3.out.2 (fun c => c)).mod HK4.out.2 (fun c => c), (HB2.out.2.2.and_then HK3.out.2).and_then HK4.out.2, by omega, by rw [hgo]; exact HB2.out.2.1.lt, by rw [hgr]; exact HK3.out.1.lt⟩)
  have HP := Lib.hid (show P1 w4 go gr n nm (.int .i64 0) w4 from ⟨0, Nat.zero_le _, rfl, (HK3.out.1.mod HK4.out.2 (fun c => c)).congr (fun i _ => by rw [if_neg (by omega)]) (fun _ _ => rfl), by
    have h := HK4.out.1
    unfold IB
    simpa [ints, iv] using h, Mod.refl _ _⟩)
  have HA := Lib.hid (HH.out.mod HS.out.m (fun _ c => c))
  have HBW := Lib.hid (show 0 < n → b < gs from fun h => by rw [hgs]; exact HH.out.lt h)
  clear hgs hgo hgr HB2 HK3 HK4 HI0 HI1 s4
  go_loopw [38] (P1 w4 go gr n nm) (fun v _ => n - (intOf v).toNat)
  case atStart => exact HP.out
  case round =>
    clear HP
    obtain ⟨j, hj, rfl, hkb, hib, hM⟩ := hrel
    have hsg := HS.out.s1
    have hso := HS.out.s2
    have hsr := HS.out.s3
    by_cases hlt : j < n
    · have hbl := HBW.out (by omega)
      have hsh := HA.out.mod hM (fun _ c => by rcases c with c | c <;> omega)
      obtain rfl := hsh.at_ (by omega)
      have c0 := hsh.name j hlt
      have c1 := hsh.time j hlt
      have hbw := cell_lt c0
      have r0 := hkb.free (j * 2)
      have r1 := hib.free j
      have k0 := hkb.name hlt
      have hrep : List.replicate (n - j) (0 : Int) = 0 :: List.replicate (n - (j + 1)) 0 := by rw [show n - j = (n - (j + 1)) + 1 by omega, List.replicate_succ]
      rw [hrep] at hib
      have k1 := hib.at_ (ints_len j).symm
      have l0 := hkb.lt
      have l1 := Blk.lt hib
      have g2 : (j : Int) < (n : Int) := by omega
      have g3 : ¬ (j : Int) < 0 := by omega
      have w1 : wrap64 ((j : Int) + 1) = (j : Int) + 1 := IntWalk.wrap64_in _ (by have := HN.out; omega)
      have hne : go ≠ gr := by omega
      obtain ⟨s, hs⟩ : ∃ s, s = nm j := ⟨_, rfl⟩
      obtain ⟨t, ht⟩ : ∃ t, t = tm j := ⟨_, rfl⟩
      rw [← hs] at c0
      rw [← ht] at c1
      have HX := Lib.hid (And.intro hkb (And.intro hib (And.intro hM (And.intro hlt hs))))
      clear hkb hib hM hlt hs ht hsh hrep hj
      go_wp2_with fail
      go_roundw
      case rel =>
        refine ⟨j + 1, HX.out.2.2.2.1, by go_num, ?_, ?_, ((HX.out.2.2.1.set (p := ⟨go, j * 2, none⟩) (fun _ => .inl rfl) _).set (p := ⟨gr, j, none⟩) (fun _ => .inr rfl) _).alloc _⟩
        · have h := ((HX.out.1.putName HX.out.2.2.2.1 s).mod (S := one gr) (((Mod.refl (one gr) _).set (p := ⟨gr, j, none⟩) (fun _ => rfl) (.int .i64 (j : Int))).alloc (.cells #[.string s, .int .i64 t] 56)) (fun c => by simp only [one] at c; omega))
          refine h.congr (fun i _ => ?_) (fun _ _ => rfl)
          by_cases hij : i = j
          · subst hij
            rw [if_pos rfl, if_pos (by omega), ← HX.out.2.2.2.2]
          · rw [if_neg hij]
            by_cases h1 : i < j
            · rw [if_pos h1, if_pos (by omega)]
            · rw [if_neg h1, if_neg (by omega)]
        · have h := IB.put1 (IB.mod (S := one go) HX.out.2.1 ((Mod.refl (one go) _).set (p := ⟨go, j * 2, none⟩) (fun _ => rfl) (.string s)) (fun c => by simp only [one] at c; omega)) (ints_len j).symm (j : Int)
          rw [ints_succ, List.append_assoc]
          exact IB.mod (S := no) h ((Mod.refl no _).alloc _) (fun c => c)
      case measure =>
        have := HX.out.2.2.2.1
        show n - ((j : Int) + 1).toNat < n - ((j : Int)).toNat
        omega
    · obtain rfl : j = n := by omega
      rw [Nat.sub_self, List.replicate_zero, List.append_nil] at hib
      have hkb2 := hkb.congr (nm' := nm) (ws' := fun _ => 0) (fun i hi => by rw [if_pos hi]) (fun _ _ => rfl)
      have hsh := HA.out.mod hM (fun hp c => by have := HBW.out hp; rcases c with c | c <;> omega)
      have hq0 : wr.cell? ⟨gs, 0, none⟩ = some (.slice A j c) := (HS.out.b0.mod hM (fun c => by rcases c with c | c <;> omega)).cell 0
      have hC : CmpOK (keyT tm) (cfT tm) (fun x => 0 ≤ x ∧ x.toNat < j) 39 #[.pointer (some ⟨gs, 0, none⟩)] gr wr := ⟨fun _ _ => rfl, fun x y _ _ => cfT_key tm x y, fun W hW x y hx hy => by
        have h := cmp_any (i := x.toNat) (j := y.toNat) (hsh.mod hW (fun hp c => by have := HBW.out hp; simp only [one] at c; omega)) (((HS.out.b0.mod hM (fun c => by rcases c with c | c <;> omega)).mod hW (fun c => by simp only [one] at c; omega)).cell 0) hx.2 hy.2 HN.out
        rw [show ((x.toNat : Nat) : Int) = x by omega, show ((y.toNat : Nat) : Int) = y by omega] at h
        exact h⟩
      have hsort := sortStable_any (c := j) hC hib (by rw [ints_len]; exact HN.out) (ints_rise j) (fun x hx => mem_ints.1 hx)
      rw [ints_len] at hsort
      have HSO := Lib.hid hsort
      have HM1 := Lib.hid (And.intro hkb2 hM)
      have g2 : ¬ (j : Int) < (j : Int) := by omega
      clear hkb hib hM hkb2 hsh hC hsort hlt hj
      go_wp2_with fail
      refine HSO.out.mono ?_
      rintro e w5 ⟨rfl, M, hsd, hib, hm5⟩
      have hb0 := (HS.out.b0.mod HM1.out.2 (fun c => by rcases c with c | c <;> omega)).mod hm5 (fun c => by simp only [one] at c; omega)
      have hb1 := (HS.out.b1.mod HM1.out.2 (fun c => by rcases c with c | c <;> omega)).mod hm5 (fun c => by simp only [one] at c; omega)
      have HW5 := Lib.hid (show PW w w5 gs go gr j A c nm (fun _ => 0) M l h d k m y v from ⟨hb0, hb1, HM1.out.1.mod hm5 (fun c => by simp only [one] at c; omega), hib, (HS.out.m.trans (HM1.out.2.trans (S := fun q => q = go ∨ q = gr) hm5 (fun _ _ c => .inr c)) (fun q hq c => by rcases c with c | c <;> omega))⟩)
      have HSD := Lib.hid hsd
      have q0 := hb1.cell 0
      have q1 := hb1.cell 1
      have q2 := hb1.cell 2
      have q3 := hb1.cell 3
      have q4 := hb1.cell 4
      have q5 := hb1.cell 5
      have q6 := hb1.cell 6
      clear hsd hib hm5 hb0 hb1 HSO HM1 hq0
      go_wp2_with fail
      refine (HPT.out _).mono ?_
      rintro e w6 ⟨gp, kc, rfl, hpa, hm6⟩
      have HPA := Lib.hid hpa
      have HW6 := Lib.hid (HW5.out.mod hm6 (fun c => c) (fun c => c) (fun c => c) (fun c => c) (fun _ _ c => c))
      clear hpa hm6 q0 q1 q2 q3 q4 q5 q6
      obtain ⟨hp1, hp2, hp3⟩ := HPA.out.facts (by have := HW5.out.ib; exact Blk.lt this)
      have HPG := Lib.hid (And.intro hp1 hp2)
      have HP2 := Lib.hid (show P2 w w5 gs go gr gp kc j A c nm tm M l h d k m y v (.int .i64 0) w6 from ⟨0, by omega, rfl, HW6.out, HPA.out⟩)
      have hMl : M.length = j := by rw [HSD.out.len, ints_len]
      have HML := Lib.hid hMl
      clear HPA HW6 hp1 hp2 hp3 hMl
      go_wp2_with fail
      go_loopw [60] (P2 w w5 gs go gr gp kc j A c nm tm M l h d k m y v) (fun vq _ => 6 - (intOf vq).toNat)
      case atStart => exact HP2.out
      case round =>
        clear HP2
        obtain ⟨q, hq, rfl, hpw, hpa⟩ := hrel
        by_cases hq6 : q < 6
        · obtain ⟨fn, cb, t0, t1, t2, hen, hcl⟩ := part_at hpa hq6
          have g3 : (q : Int) < 6 := by omega
          have g4 : ¬ (q : Int) < 0 := by omega
          have w1 : wrap64 ((q : Int) + 1) = (q : Int) + 1 := IntWalk.wrap64_in _ (by omega)
          obtain ⟨mo, hmo⟩ : ∃ mo, mo = mostF l h d k m y q := ⟨_, rfl⟩
          obtain ⟨wy, hwy⟩ : ∃ wy, wy = (2 : Int) ^ q := ⟨_, rfl⟩
          rw [← hwy] at t0
          rw [← hmo] at t1
          have hgl := hpa.blk.lt
          have HQ := Lib.hid (And.intro hpw (And.intro hpa (And.intro hq6 (And.intro hmo hwy))))
          have HCL := Lib.hid hcl
          have HEN := Lib.hid hen
          clear hpw hpa hq hmo hwy hcl hen
          obtain ⟨gq, hgq⟩ : ∃ gq, gq = wr.heap.size := ⟨_, rfl⟩
          have hbd := partsW_bd (tm := tm) (M := M) (most := mostF l h d k m y) (sd_ne HSD.out) (sd_pos HSD.out) q
          have HP3 := Lib.hid (show P3 w w5 gs go gr gp kc gq j A c nm tm M l h d k m y v q fn cb mo wy (.int .i16 0) (.int .i64 0) (.int .i64 0) (wr.alloc (.cells #[.int .u8 wy, .int .i16 mo, .func (.func fn) #[] cb] 83)) from
            ⟨0, [], M, 0, 0, _, rfl, rfl, rfl, rfl, rfl, Int.le_refl _, Int.le_refl _, by rw [HQ.out.2.2.2.1, HQ.out.2.2.2.2]; rfl, HQ.out.1.mod (S := no) ((Mod.refl _ _).alloc _) (fun c => c) (fun c => c) (fun c => c) (fun c => c) (fun _ _ c => c), HQ.out.2.1.mod (S := no) ((Mod.refl _ _).alloc _) (fun c => c) (fun c => c), by rw [hgq]; exact Blk.new _ _ _, fun i => by rw [HQ.out.2.2.2.2]; have := hbd i; omega, fun x _ => by rw [HQ.out.2.2.2.2]; exact (hbd _).2⟩)
          have HGQ := Lib.hid (show gp < gq ∧ kc < gq ∧ gr < gq ∧ go < gq from ⟨by rw [hgq]; exact HQ.out.2.1.blk.lt, by rw [hgq]; exact cell_lt HQ.out.2.1.fn, by rw [hgq]; exact Blk.lt HQ.out.1.ib, by rw [hgq]; exact HQ.out.1.kb.lt⟩)
          have HW1 := Lib.hid w1
          clear hbd w1
          go_wp2_with fail
          rw [← hgq]
          clear hgq t0 t1 t2 hgl
          go_loopw [12, 13, 66] (P3 w w5 gs go gr gp kc gq j A c nm tm M l h d k m y v q fn cb mo wy) (fun _ _ va _ => j - (intOf va).toNat)
          case atStart => exact HP3.out
          case round =>
            clear HP3
            obtain ⟨a, M1, M2, kept, last, ws, hMM, hMa, rfl, rfl, rfl, hk0, hka, hfin, hpw, hpa, hpb, hwb, hwx⟩ := hrel
            by_cases hlt : a < j
            · obtain ⟨x, M3, rfl⟩ : ∃ x M3, M2 = x :: M3 := by
                cases M2 with
                | nil => exfalso; have := HML.out; rw [hMM] at this; simp at this; omega
                | cons x t => exact ⟨x, t, rfl⟩
              obtain ⟨hx0, hxj⟩ := mem_ints.1 (HSD.out.perm.mem_iff.1 (show x ∈ M by rw [hMM]; simp))
              obtain ⟨i, rfl⟩ : ∃ i : Nat, x = (i : Int) := ⟨x.toNat, by omega⟩
              rw [Int.toNat_natCast] at hxj
              have hti := allIn_iff.1 hi i hxj
              have hsh := HH.out.mod hpw.m (fun _ c => c)
              obtain rfl := hsh.at_ (by omega)
              have ct := hsh.time i hxj
              have hib := hpw.ib
              rw [hMM] at hib
              have co := hib.at_ hMa.symm
              have cs := hpw.b0.cell 0
              have cp0 := hpb.cell 0
              have cp1 := hpb.cell 1
              have cp2 := hpb.cell 2
              have ck := hpa.fn
              have cw := hpw.kb.why hxj
              have rw0 := hpw.kb.free (i * 2 + 1)
              obtain ⟨t, ht⟩ : ∃ t, t = tm i := ⟨_, rfl⟩
              rw [← ht] at ct hti
              have hti2 : -62135596800 ≤ t ∧ t ≤ 253402300799 := by simp [insideB] at hti; omega
              have HT := Lib.hid (And.intro ht hti2)
              have HX := Lib.hid (And.intro hMM (And.intro hMa (And.intro hk0 (And.intro hka (And.intro hfin (And.intro hpw (And.intro hpa (And.intro hpb (And.intro hwb (And.intro hwx (And.intro hxj (And.intro hlt hsh))))))))))))
              have g5 : (a : Int) < (j : Int) := by omega
              have g6 : ¬ (a : Int) < 0 := by omega
              have g7 : (i : Int) < (j : Int) := by omega
              have g8 : ¬ (i : Int) < 0 := by omega
              have w2 : wrap64 ((a : Int) + 1) = (a : Int) + 1 := IntWalk.wrap64_in _ (by have := HN.out; omega)
              have hen := HEN.out
              have cs' : wr.cell? ⟨gs, 0, none⟩ = some (.slice (some ⟨b, o, none⟩) j c) := cs
              have cp2' : wr.cell? ⟨gq, 2, none⟩ = some (.func (.func fn) #[] cb) := cp2
              clear hMM hMa hk0 hka hfin hpw hpa hpb hwb hwx hxj hlt hsh hib hti hti2 ht cp0 cp1 cs cp2 hx0
              go_wp2_with fail
              go_region_held3 (fun w' => w'.cell? ⟨gq, 2, none⟩ = some (.func (.func fn) #[] cb) ∧ w'.cell? ⟨gs, 0, none⟩ = some (.slice (some ⟨b, o, none⟩) j c) ∧ w'.cell? ⟨b, o + i * 2 + 1, none⟩ = some (.int .i64 t) ∧ w'.cell? ⟨kc, 0, none⟩ = some (.func (.func 48) #[] #[])) (first | go_keep | exact ⟨hS8 _ _ (by assumption), hS8 _ _ (by assumption), hS8 _ _ (by assumption), hS8 _ _ (by assumption)⟩)
                (first | (go_at_fn fn; refine (HCL.out _ (a : Int) t (by assumption) HT.out.2.1 HT.out.2.2).mono ?_; rintro e w8 ⟨rfl, hb8⟩; have hS8 := below_keep hb8))
              rename_i hheld8
              clear hheld8
              have hm8 : Mod no wr w8 := (Mod.refl no wr).drew.and_then (Mod.of_new hb8)
              obtain ⟨hMM, hMa, hk0, hka, hfin, hpw, hpa, hpb, hwb, hwx, hxj, hlt, hsh⟩ := HX.out
              obtain ⟨bv, hbv⟩ : ∃ bv, bv = pb q (a : Int) t := ⟨_, rfl⟩
              have hbk : bkt tm q a i = bv := by rw [hbv, HT.out.1]; rfl
              have hpw8 := hpw.mod hm8 (fun c => c) (fun c => c) (fun c => c) (fun c => c) (fun _ _ c => c)
              have hpa8 := hpa.mod hm8 (fun c => c) (fun c => c)
              have hpb8 := hpb.mod hm8 (fun c => c)
              have cp0 : w8.cell? ⟨gq, 0, none⟩ = some (.int .u8 wy) := hpb8.cell 0
              have cp1 : w8.cell? ⟨gq, 1, none⟩ = some (.int .i16 mo) := hpb8.cell 1
              have cw8 : w8.cell? ⟨go, i * 2 + 1, none⟩ = some (.int .u8 (ws i)) := hpw8.kb.why hxj
              have rw8 := hpw8.kb.free (i * 2 + 1)
              have hl8 := hpw8.kb.lt
              have HX8 := Lib.hid (And.intro hpw8 (And.intro hpa8 (And.intro hpb8 hbk)))
              rw [← hbv]
              have w3 : IntKind.i16.wrap (kept + 1) = kept + 1 := IntWalk.i16_in _ (by have := HNN.out; omega)
              have HB8 := Lib.hid (And.intro hk0 hka)
              have HOR := Lib.hid (or_pow (q := q) (by omega) (hwb i).1 (by have h := hwx (i : Int) (by simp); rw [Int.toNat_natCast] at h; exact h) HQ.out.2.2.2.2)
              clear hMM hMa hfin hpw hpa hpb hwx hxj hlt hsh hbv hbk hpw8 hpa8 hpb8 hm8 hb8 hS8 co ck cw rw0 ct cs' cp2' hk0 hka
              by_cases h1 : kept < mo
              · have hor : bits .or .u8 (ws i) wy = ws i + wy := HOR.out
                by_cases h2 : a = 0
                · have e1 : ((a : Int) == 0) = true := by rw [beq_iff_eq]; omega
                  have H2 := Lib.hid h2
                  clear h2
                  go_wp2_with fail
                  go_region
                  go_wp2_with fail
                  go_roundw
                  case rel =>
                    obtain ⟨hMM, hMa, _, _, hfin, hpw, hpa, hpb, hwb, hwx, hxj, hlt, hsh⟩ := HX.out
                    have hg := HGQ.out
                    have hpg := HPG.out
                    refine ⟨a + 1, M1 ++ [(i : Int)], M3, kept + 1, bv, updW ws i (ws i + wy), by rw [hMM]; simp, by rw [List.length_append, hMa]; rfl, rfl, rfl, by go_num, by have := HB8.out; omega, by have := HB8.out; omega, ?_, HX8.out.1.put hxj hsg hso hsr _, (HX8.out.2.1.mod (S := one go) ((Mod.refl (one go) _).set (p := ⟨go, i * 2 + 1, none⟩) (fun _ => rfl) _) (fun c => by simp only [one] at c; omega) (fun c => by simp only [one] at c; omega)).drew, (HX8.out.2.2.1.mod (S := one go) ((Mod.refl (one go) _).set (p := ⟨go, i * 2 + 1, none⟩) (fun _ => rfl) _) (fun c => by simp only [one] at c; omega)).drew, fun z => ?_, fun x hx => ?_⟩
                    · rw [← hfin]
                      exact (inner_yes HX8.out.2.2.2 h1 (.inl H2.out)).symm
                    · unfold updW
                      have h1 := hwb z
                      have h2 := hwb i
                      have h3 := hwx (i : Int) (by simp)
                      rw [Int.toNat_natCast] at h3
                      split <;> omega
                    · have h3 := hwx x (List.mem_cons_of_mem _ hx)
                      unfold updW
                      have hne := rest_ne HSD.out hMM hx
                      rw [if_neg hne]
                      exact h3
                  case measure =>
                    have := HX.out.2.2.2.2.2.2.2.2.2.2.2.1
                    try rw [w2]
                    show j - ((a : Int) + 1).toNat < j - ((a : Int)).toNat
                    omega
                · have e1 : ((a : Int) == 0) = false := by rw [beq_eq_false_iff_ne]; omega
                  have H2 := Lib.hid h2
                  clear h2
                  by_cases h3 : bv = last
                  · have e2 : (bv != last) = false := by simpa using h3
                    have H3 := Lib.hid h3
                    clear h3 hor
                    go_wp2_with fail
                    go_roundw
                    case rel =>
                      obtain ⟨hMM, hMa, _, _, hfin, hpw, hpa, hpb, hwb, hwx, hxj, hlt, hsh⟩ := HX.out
                      refine ⟨a + 1, M1 ++ [(i : Int)], M3, kept, bv, ws, by rw [hMM]; simp, by rw [List.length_append, hMa]; rfl, rfl, rfl, by go_num, HB8.out.1, by have := HB8.out; omega, ?_, HX8.out.1, HX8.out.2.1, HX8.out.2.2.1, hwb, fun x hx => hwx x (List.mem_cons_of_mem _ hx)⟩
                      rw [← hfin]
                      exact (inner_no HX8.out.2.2.2 (fun h => by rcases h.2 with c | c; exact H2.out c; exact c H3.out)).symm
                    case measure =>
                      have := HX.out.2.2.2.2.2.2.2.2.2.2.2.1
                      try rw [w2]
                      show j - ((a : Int) + 1).toNat < j - ((a : Int)).toNat
                      omega
                  · have e2 : (bv != last) = true := by simpa using h3
                    have H3 := Lib.hid h3
                    clear h3
                    go_wp2_with fail
                    go_region
                    go_wp2_with fail
                    go_roundw
                    case rel =>
                      obtain ⟨hMM, hMa, _, _, hfin, hpw, hpa, hpb, hwb, hwx, hxj, hlt, hsh⟩ := HX.out
                      have hg := HGQ.out
                      have hpg := HPG.out
                      refine ⟨a + 1, M1 ++ [(i : Int)], M3, kept + 1, bv, updW ws i (ws i + wy), by rw [hMM]; simp, by rw [List.length_append, hMa]; rfl, rfl, rfl, by go_num, by have := HB8.out; omega, by have := HB8.out; omega, ?_, HX8.out.1.put hxj hsg hso hsr _, (HX8.out.2.1.mod (S := one go) ((Mod.refl (one go) _).set (p := ⟨go, i * 2 + 1, none⟩) (fun _ => rfl) _) (fun c => by simp only [one] at c; omega) (fun c => by simp only [one] at c; omega)).drew, (HX8.out.2.2.1.mod (S := one go) ((Mod.refl (one go) _).set (p := ⟨go, i * 2 + 1, none⟩) (fun _ => rfl) _) (fun c => by simp only [one] at c; omega)).drew, fun z => ?_, fun x hx => ?_⟩
                      · rw [← hfin]
                        exact (inner_yes HX8.out.2.2.2 h1 (.inr H3.out)).symm
                      · unfold updW
                        have h1 := hwb z
                        have h2 := hwb i
                        have h3 := hwx (i : Int) (by simp)
                        rw [Int.toNat_natCast] at h3
                        split <;> omega
                      · have h3 := hwx x (List.mem_cons_of_mem _ hx)
                        unfold updW
                        have hne := rest_ne HSD.out hMM hx
                        rw [if_neg hne]
                        exact h3
                    case measure =>
                      have := HX.out.2.2.2.2.2.2.2.2.2.2.2.1
                      try rw [w2]
                      show j - ((a : Int) + 1).toNat < j - ((a : Int)).toNat
                      omega
              · skip
                go_wp2_with fail
                go_roundw
                case rel =>
                  obtain ⟨hMM, hMa, _, _, hfin, hpw, hpa, hpb, hwb, hwx, hxj, hlt, hsh⟩ := HX.out
                  refine ⟨a + 1, M1 ++ [(i : Int)], M3, kept, bv, ws, by rw [hMM]; simp, by rw [List.length_append, hMa]; rfl, rfl, rfl, by go_num, HB8.out.1, by have := HB8.out; omega, ?_, HX8.out.1, HX8.out.2.1, HX8.out.2.2.1, hwb, fun x hx => hwx x (List.mem_cons_of_mem _ hx)⟩
                  rw [← hfin]
                  exact (inner_no HX8.out.2.2.2 (fun h => h1 h.1)).symm
                case measure =>
                  have := HX.out.2.2.2.2.2.2.2.2.2.2.2.1
                  try rw [w2]
                  show j - ((a : Int) + 1).toNat < j - ((a : Int)).toNat
                  omega
            · have hM2 : M2 = [] := by
                cases M2 with
                | nil => rfl
                | cons x t => exfalso; have := HML.out; rw [hMM] at this; simp at this; omega
              subst hM2
              have hws : ws = partsW tm M (mostF l h d k m y) (q + 1) := hfin
              rw [hws] at hpw
              obtain rfl : a = j := by have := HML.out; rw [hMM, List.append_nil] at this; omega
              have HO := Lib.hid (And.intro hpw hpa)
              have g5 : ¬ (a : Int) < (a : Int) := by omega
              have w1 := HW1.out
              clear hMM hMa hk0 hka hfin hpw hpa hpb hwb hwx hlt hws
              go_wp2_with fail
              go_roundw
              case rel => exact ⟨q + 1, by omega, by go_num, HO.out.1, HO.out.2⟩
              case measure =>
                try rw [w1]
                show 6 - ((q : Int) + 1).toNat < 6 - ((q : Int)).toNat
                omega
        · obtain rfl : q = 6 := by omega
          have hbd := partsW_bd (tm := tm) (M := M) (most := mostF l h d k m y) (sd_ne HSD.out) (sd_pos HSD.out) 6
          have HP4 := Lib.hid (show P4 w gs go gr j A c nm tm M l h d k m y v (.int .i64 0) wr from ⟨0, [], M, _, rfl, rfl, rfl, rfl, hpw, fun i => by have := hbd i; have e : (2 : Int) ^ 6 = 64 := rfl; omega, fun x _ => (hbd _).2⟩)
          have g3 : ¬ ((6 : Nat) : Int) < 6 := by omega
          clear hpw hpa hbd hq hq6
          go_wp2_with fail
          go_loopw [110] (P4 w gs go gr j A c nm tm M l h d k m y v) (fun va _ => j - (intOf va).toNat)
          case atStart => exact HP4.out
          case round =>
            clear HP4
            obtain ⟨a, M1, M2, ws, hMM, hMa, rfl, hfin, hpw, hwb, hwx⟩ := hrel
            by_cases hlt : a < j
            · obtain ⟨x, M3, rfl⟩ : ∃ x M3, M2 = x :: M3 := by
                cases M2 with
                | nil => exfalso; have := HML.out; rw [hMM] at this; simp at this; omega
                | cons x t => exact ⟨x, t, rfl⟩
              obtain ⟨hx0, hxj⟩ := mem_ints.1 (HSD.out.perm.mem_iff.1 (show x ∈ M by rw [hMM]; simp))
              obtain ⟨i, rfl⟩ : ∃ i : Nat, x = (i : Int) := ⟨x.toNat, by omega⟩
              rw [Int.toNat_natCast] at hxj
              obtain ⟨z, Mt, hMz⟩ : ∃ z Mt, M = z :: Mt := by
                cases hM : M with
                | nil => exfalso; have := HML.out; rw [hM] at this; simp at this; omega
                | cons z t => exact ⟨z, t, rfl⟩
              obtain ⟨hz0, hzj⟩ := mem_ints.1 (HSD.out.perm.mem_iff.1 (show z ∈ M by rw [hMz]; simp))
              obtain ⟨z0, rfl⟩ : ∃ z0 : Nat, z = (z0 : Int) := ⟨z.toNat, by omega⟩
              rw [Int.toNat_natCast] at hzj
              have hhead : (M.head?.getD 0).toNat = z0 := by rw [hMz]; rfl
              have hsh := HH.out.mod hpw.m (fun _ c => c)
              obtain rfl := hsh.at_ (by omega)
              have ct := hsh.time i hxj
              have cz := hsh.time z0 hzj
              have hib := hpw.ib
              rw [hMM] at hib
              have co := hib.at_ hMa.symm
              have hib := hpw.ib
              rw [hMz] at hib
              have co0 : wr.cell? ⟨gr, 0, none⟩ = some (.int .i64 (z0 : Int)) := IB.at_ (A := []) hib rfl
              have cs : wr.cell? ⟨gs, 0, none⟩ = some (.slice (some ⟨b, o, none⟩) j c) := hpw.b0.cell 0
              have cv : wr.cell? ⟨gs + 1, 6, none⟩ = some (.int .i64 v) := hpw.b1.cell 6
              have hti := allIn_iff.1 hi i hxj
              have htz := allIn_iff.1 hi z0 hzj
              have hti2 : -62135596800 ≤ tm i ∧ tm i ≤ 253402300799 := by simp [insideB] at hti; omega
              have htz2 : -62135596800 ≤ tm z0 ∧ tm z0 ≤ 253402300799 := by simp [insideB] at htz; omega
              obtain ⟨t, ht⟩ : ∃ t, t = tm i := ⟨_, rfl⟩
              obtain ⟨tz, htz3⟩ : ∃ tz, tz = tm z0 := ⟨_, rfl⟩
              rw [← ht] at ct hti2
              rw [← htz3] at cz htz2
              have hwx0 := hwx (i : Int) (by simp)
              rw [Int.toNat_natCast] at hwx0
              have HOR := Lib.hid (or_pow (q := 6) (by omega) (hwb i).1 hwx0 rfl)
              have HX := Lib.hid (And.intro hMM (And.intro hMa (And.intro hfin (And.intro hpw (And.intro hwb (And.intro hwx (And.intro hxj (And.intro hlt (And.intro ht (And.intro htz3 hhead))))))))))
              have g5 : (a : Int) < (j : Int) := by omega
              have g6 : ¬ (a : Int) < 0 := by omega
              have g7 : (i : Int) < (j : Int) := by omega
              have g8 : ¬ (i : Int) < 0 := by omega
              have g9 : (z0 : Int) < (j : Int) := by omega
              have g10 : ¬ (z0 : Int) < 0 := by omega
              have g12 : 0 < j := by omega
              have g14 : decide (0 < j) = true := decide_eq_true g12
              have g15 : ¬ j = 0 := by omega
              have g11 : (0 : Int) < (j : Int) := by omega
              have w2 : wrap64 ((a : Int) + 1) = (a : Int) + 1 := IntWalk.wrap64_in _ (by have := HN.out; omega)
              have w4 : wrap64 (tz - t) = tz - t := IntWalk.wrap64_in _ (by omega)
              clear hMM hMa hfin hpw hwb hwx hxj hlt hsh hib hti htz hti2 htz2 ht htz3 hhead hMz hz0 hzj hx0 hwx0
              by_cases h1 : 0 < v
              · have d1 : decide (0 < v) = true := decide_eq_true h1
                by_cases h2 : tz - t ≤ v
                · have d2 : decide (tz - t ≤ v) = true := decide_eq_true h2
                  go_wp2_with fail
                  go_quiet (fail)
                  have hm8 : Mod no wr (wr.drewN nq) := (Mod.refl no wr).drewN nq
                  generalize wr.drewN nq = w8 at *
                  have hpw8 := HX.out.2.2.2.1.mod hm8 (fun c => c) (fun c => c) (fun c => c) (fun c => c) (fun _ _ c => c)
                  have cw8 : w8.cell? ⟨go, i * 2 + 1, none⟩ = some (.int .u8 (ws i)) := hpw8.kb.why HX.out.2.2.2.2.2.2.1
                  have rw8 := hpw8.kb.free (i * 2 + 1)
                  have hl8 := hpw8.kb.lt
                  have hor : bits .or .u8 (ws i) 64 = ws i + 64 := HOR.out
                  have HX8 := Lib.hid hpw8
                  clear hpw8 hm8 ct cz co co0 cs cv
                  go_wp2_with fail
                  go_roundw
                  case rel =>
                    obtain ⟨hMM, hMa, hfin, hpw, hwb, hwx, hxj, hlt, ht, htz, hhead⟩ := HX.out
                    refine ⟨a + 1, M1 ++ [(i : Int)], M3, updW ws i (ws i + 64), by rw [hMM]; simp, by rw [List.length_append, hMa]; rfl, by go_num, ?_, HX8.out.putp hxj hsg hso hsr _, fun z => ?_, fun x hx => ?_⟩
                    · rw [← hfin]
                      exact (wit_yes (by rw [hhead, ← htz, ← ht]; exact ⟨h1, h2⟩)).symm
                    · unfold updW
                      have h1 := hwb z
                      have h2 := hwb i
                      have h3 := hwx (i : Int) (by simp)
                      rw [Int.toNat_natCast] at h3
                      split <;> omega
                    · have h3 := hwx x (List.mem_cons_of_mem _ hx)
                      unfold updW
                      rw [if_neg (rest_ne HSD.out hMM hx)]
                      exact h3
                  case measure =>
                    have := HX.out.2.2.2.2.2.2.2.1
                    try rw [w2]
                    show j - ((a : Int) + 1).toNat < j - ((a : Int)).toNat
                    omega
                · have d2 : decide (tz - t ≤ v) = false := decide_eq_false h2
                  go_wp2_with fail
                  go_quiet (fail)
                  clear ct cz co co0 cs cv
                  go_wp2_with fail
                  go_roundw
                  case rel =>
                    obtain ⟨hMM, hMa, hfin, hpw, hwb, hwx, hxj, hlt, ht, htz, hhead⟩ := HX.out
                    refine ⟨a + 1, M1 ++ [(i : Int)], M3, ws, by rw [hMM]; simp, by rw [List.length_append, hMa]; rfl, by go_num, ?_, hpw.mod ((Mod.refl no wr).drewN nq) (fun c => c) (fun c => c) (fun c => c) (fun c => c) (fun _ _ c => c), hwb, fun x hx => hwx x (List.mem_cons_of_mem _ hx)⟩
                    rw [← hfin]
                    exact (wit_no (by rw [hhead, ← htz, ← ht]; exact fun h => by have := h.2; omega)).symm
                  case measure =>
                    have := HX.out.2.2.2.2.2.2.2.1
                    try rw [w2]
                    show j - ((a : Int) + 1).toNat < j - ((a : Int)).toNat
                    omega
              · have d1 : decide (0 < v) = false := decide_eq_false h1
                go_wp2_with fail
                go_quiet (fail)
                clear ct cz co co0 cs cv
                go_wp2_with fail
                go_roundw
                case rel =>
                  obtain ⟨hMM, hMa, hfin, hpw, hwb, hwx, hxj, hlt, ht, htz, hhead⟩ := HX.out
                  refine ⟨a + 1, M1 ++ [(i : Int)], M3, ws, by rw [hMM]; simp, by rw [List.length_append, hMa]; rfl, by go_num, ?_, hpw.mod ((Mod.refl no wr).drewN nq) (fun c => c) (fun c => c) (fun c => c) (fun c => c) (fun _ _ c => c), hwb, fun x hx => hwx x (List.mem_cons_of_mem _ hx)⟩
                  rw [← hfin]
                  exact (wit_no (fun h => by have := h.1; omega)).symm
                case measure =>
                  have := HX.out.2.2.2.2.2.2.2.1
                  try rw [w2]
                  show j - ((a : Int) + 1).toNat < j - ((a : Int)).toNat
                  omega
            · have hM2 : M2 = [] := by
                cases M2 with
                | nil => rfl
                | cons x t => exfalso; have := HML.out; rw [hMM] at this; simp at this; omega
              subst hM2
              have hws : ws = planW tm M l h d k m y v := hfin
              rw [hws] at hpw
              obtain rfl : a = j := by have := HML.out; rw [hMM, List.append_nil] at this; omega
              have HO := Lib.hid hpw
              have g5 : ¬ (a : Int) < (a : Int) := by omega
              clear hMM hMa hfin hpw hwb hwx hlt hws
              go_wp2_with fail
              go_ret2
              exact ⟨HO.out.m, .inr (.inr (.inr ⟨HNN.out, hr, hi, go, M, by omega, rfl, HSD.out, HO.out.kb⟩))⟩
end Go.Proofs.Ytoncjoelkenjnaa.PL
