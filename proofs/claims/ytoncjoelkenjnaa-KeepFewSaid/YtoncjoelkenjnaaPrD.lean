/- The document's Plan: the walk. -/
import Derived.Test.YtoncjoelkenjnaaPrC
import Derived.Test.YtoncjoelkenjnaaPrM
namespace Go.Proofs.Ytoncjoelkenjnaa.PL
open Go.RowKit Mem Go.Proofs.Ytoncjoelkenjnaa.Days Go.Proofs.Ytoncjoelkenjnaa.SS
set_option linter.unusedVariables false
set_option linter.unusedSimpArgs false

/-- The cells of what is kept, ahead of any bit. -/
def kx (nm : Nat → ByteArray) : Nat → List Value
  | 0 => []
  | n + 1 => kx nm n ++ [.string (nm n), .int .u8 0]
theorem kx_len (nm : Nat → ByteArray) (n : Nat) : (kx nm n).length = n * 2 := by
  induction n with
  | zero => rfl
  | succ n ih => unfold kx; rw [List.length_append, ih]; simp; omega
theorem kx_get (nm : Nat → ByteArray) : ∀ (n i : Nat), i < n → (kx nm n)[i * 2]? = some (.string (nm i)) ∧ (kx nm n)[i * 2 + 1]? = some (.int .u8 0) := by
  intro n
  induction n with
  | zero => intro i h; omega
  | succ n ih =>
    intro i h
    unfold kx
    have hl := kx_len nm n
    rcases Nat.lt_or_ge i n with c | c
    · obtain ⟨h1, h2⟩ := ih i c
      rw [List.getElem?_append_left (by omega), List.getElem?_append_left (by omega)]
      exact ⟨h1, h2⟩
    · obtain rfl : i = n := by omega
      rw [List.getElem?_append_right (by omega), List.getElem?_append_right (by omega), hl, Nat.sub_self, show i * 2 + 1 - i * 2 = 1 by omega]
      exact ⟨rfl, rfl⟩
/-- The row of what is kept, in block go, if there is any. -/
def KO (w : World) (go : Nat) (A : Option Addr) (n : Nat) (nm : Nat → ByteArray) (ws : Nat → Int) : Prop := 0 < n → A = some ⟨go, 0, none⟩ ∧ KB w go n nm ws
theorem KO.mod {S : Nat → Prop} {w w' : World} {go n : Nat} {A : Option Addr} {nm : Nat → ByteArray} {ws : Nat → Int} (h : KO w go A n nm ws) (m : Mod S w w') (hs : 0 < n → ¬ S go) : KO w' go A n nm ws := fun hn => ⟨(h hn).1, (h hn).2.mod m (hs hn)⟩
theorem KO.of_own {w : World} {base n : Nat} {A : Option Addr} {c : Nat} {nm : Nat → ByteArray} (h : w.ownsRow base 58 2 (.slice A n c) n (kx nm n)) : ∃ go, KO w go A n nm (fun _ => 0) ∧ (0 < n → base ≤ go ∧ go < w.heap.size) := by
  rcases h.2 with ⟨hv, hn⟩ | ⟨g, cap, cur, hv, hb, hg, hnc, hcm, hcs, ht⟩
  · refine ⟨0, fun hn' => by omega, fun hn' => by omega⟩
  · injection hv with hv h5 h6
    have hg : Blk w g 58 cur := hg
    refine ⟨g, fun _ => ⟨hv, cur, hg, by rw [hcs]; exact Nat.mul_le_mul_right _ hnc, fun i hi => ?_⟩, fun _ => ⟨hb, hg.lt⟩⟩
    obtain ⟨h1, h2⟩ := kx_get nm n i hi
    rw [← ht] at h1 h2
    rw [List.getElem?_take, if_pos (by omega)] at h1 h2
    rw [Array.getElem?_toList] at h1 h2
    exact ⟨h1, h2⟩
theorem own_mod {S : Nat → Prop} {w w' : World} {base : Nat} {e : TypeId} {size : Nat} {v : Value} {n : Nat} {xs : List Value} (h : w.ownsRow base e size v n xs) (hm : Mod S w w') (hs : ∀ k, base ≤ k → ¬ S k) : w'.ownsRow base e size v n xs := by
  refine ⟨h.1, ?_⟩
  rcases h.2 with h2 | ⟨g, cap, cur, hv, hg, hb, r⟩
  · exact .inl h2
  · exact .inr ⟨g, cap, cur, hv, hg, Blk.mod (show Blk w g e cur from hb) hm (hs g hg), r⟩
theorem own_ge {w : World} {base n k : Nat} {e : TypeId} {sz : Nat} {v : Value} {xs : List Value} (h : w.ownsRow base e sz v n xs) (hk : v.ownBlock = some k) : base ≤ k := by
  rcases h.2 with ⟨rfl, _⟩ | ⟨g, cap, cur, rfl, hb, _⟩
  · cases hk
  · simp [Value.ownBlock] at hk; omega
/-- The first loop. -/
def D0 (w W0 : World) (n : Nat) (nm : Nat → ByteArray) (tm : Nat → Int) (v7 v8 : Value) (wr : World) : Prop :=
  ∃ (i c : Nat) (A : Option Addr), i ≤ n ∧ v7 = .slice A i c ∧ v8 = .int .i64 (i : Int) ∧ wr.ownsRow W0.heap.size 58 2 (.slice A i c) i (kx nm i) ∧ Mod no W0 wr ∧ ∀ j, j < i → insideB (tm j) = true
/-- What the document's Plan answers. -/
def RPlanP (w : World) (n : Nat) (nm : Nat → ByteArray) (tm : Nat → Int) (l h d k m y v : Int) (e : Ending) (w' : World) : Prop :=
  Mod no w w' ∧
  ((4096 < n ∧ e = .returned (.tuple #[.slice none 0 0, .int .i64 4])) ∨
   (n ≤ 4096 ∧ rightB l h d k m y v = false ∧ e = .returned (.tuple #[.slice none 0 0, .int .i64 280])) ∨
   (n ≤ 4096 ∧ rightB l h d k m y v = true ∧ allIn n tm = false ∧ e = .returned (.tuple #[.slice none 0 0, .int .i64 281])) ∨
   (n ≤ 4096 ∧ rightB l h d k m y v = true ∧ allIn n tm = true ∧ ∃ go A c M, w.heap.size ≤ go ∧ e = .returned (.tuple #[.slice A n c, .int .i64 0]) ∧ Sd (keyT tm) M (ints n) ∧ KO w' go A n nm (planW tm M l h d k m y v)))
/-- The six numbers. -/
def mostCells (l h d k m y : Int) : Array Value := #[.int .i16 l, .int .i16 h, .int .i16 d, .int .i16 k, .int .i16 m, .int .i16 y]
/-- What stands from the order on. -/
structure DW (w wr : World) (gq gm go rb n : Nat) (Ao Ar : Option Addr) (cr : Nat) (nm : Nat → ByteArray) (ws : Nat → Int) (M : List Int) (l h d k m y v : Int) : Prop where
  b1 : Blk wr gq 50 #[.int .i16 l, .int .i16 h, .int .i16 d, .int .i16 k, .int .i16 m, .int .i16 y, .int .i64 v]
  bm : Blk wr gm 36 (mostCells l h d k m y)
  ko : KO wr go Ao n nm ws
  ro : Row wr rb 3 Ar n cr M
  m : Mod no w wr
theorem Row.cap {w : World} {base n c : Nat} {e : TypeId} {A : Option Addr} {L : List Int} (h : Row w base e A n c L) : n ≤ c := by
  rcases h.2 with ⟨_, h1, h2⟩ | ⟨_, _, _, R, _, _, _, _, h6⟩
  · omega
  · omega
theorem lt_of_hid {a b : Int} (h : RowKit.Hid (a < b)) : a < b := h.out
theorem DW.mod {S : Nat → Prop} {w wr w' : World} {gq gm go rb n : Nat} {Ao Ar : Option Addr} {cr : Nat} {nm : Nat → ByteArray} {ws : Nat → Int} {M : List Int} {l h d k m y v : Int} (H : DW w wr gq gm go rb n Ao Ar cr nm ws M l h d k m y v) (hm : Mod S wr w') (h1 : ¬ S gq) (h2 : ¬ S gm) (h3 : 0 < n → ¬ S go) (h4 : ∀ q, ofA Ar q → ¬ S q) (h5 : ∀ q, q < w.heap.size → ¬ S q) : DW w w' gq gm go rb n Ao Ar cr nm ws M l h d k m y v :=
  ⟨H.b1.mod hm h1, H.bm.mod hm h2, H.ko.mod hm h3, H.ro.mod hm (fun q _ _ hq => h4 q hq), H.m.trans hm (fun q hq c => (h5 q hq c).elim)⟩
theorem mostc (l h d k m y : Int) {q : Nat} (hq : q < 6) : (mostCells l h d k m y)[q]? = some (.int .i16 (mostF l h d k m y q)) := by
  match q, hq with
  | 0, _ => rfl
  | 1, _ => rfl
  | 2, _ => rfl
  | 3, _ => rfl
  | 4, _ => rfl
  | 5, _ => rfl
theorem pow_bd {q : Nat} (hq : q < 6) : (1 : Int) ≤ 2 ^ q ∧ (2 : Int) ^ q ≤ 32 := by
  match q, hq with
  | 0, _ => decide
  | 1, _ => decide
  | 2, _ => decide
  | 3, _ => decide
  | 4, _ => decide
  | 5, _ => decide
theorem pow_next {q : Nat} {wy : Int} (h : wy = (2 : Int) ^ q) : Value.int .u8 (wy * 2) = .int .u8 ((2 : Int) ^ (q + 1)) := by rw [h, Int.pow_succ]
/-- The loop over the kinds. -/
def D2 (w : World) (gq gm go rb n : Nat) (Ao Ar : Option Addr) (cr : Nat) (nm : Nat → ByteArray) (tm : Nat → Int) (M : List Int) (l h d k m y v : Int) (v11 v12 : Value) (wr : World) : Prop :=
  ∃ q : Nat, q ≤ 6 ∧ v11 = .int .u8 ((2 : Int) ^ q) ∧ v12 = .int .i64 (q : Int) ∧ DW w wr gq gm go rb n Ao Ar cr nm (partsW tm M (mostF l h d k m y) q) M l h d k m y v
/-- The loop over the shots, within a kind. -/
def D3 (w : World) (gq gm go rb bs n : Nat) (Ao Ar : Option Addr) (cr : Nat) (nm : Nat → ByteArray) (tm : Nat → Int) (M : List Int) (l h d k m y v : Int) (q : Nat) (mo wy : Int) (v13 v14 v15 : Value) (wr : World) : Prop :=
  ∃ (a : Nat) (M1 M2 : List Int) (kept last : Int) (ws : Nat → Int) (prev : Option Nat) (As : Option Addr) (cs ls : Nat) (Ls : List Int), M = M1 ++ M2 ∧ M1.length = a ∧ v13 = .slice As ls cs ∧ v14 = .int .i16 kept ∧ v15 = .int .i64 (a : Int) ∧ 0 ≤ kept ∧ kept ≤ (a : Int) ∧
    inner mo wy (bkt tm q) a M2 kept last ws = partsW tm M (mostF l h d k m y) (q + 1) ∧ DW w wr gq gm go rb n Ao Ar cr nm ws M l h d k m y v ∧ Row wr bs 2 As ls cs Ls ∧ SeenOK tm q a last prev Ls ∧ (∀ j, prev = some j → (∀ x ∈ M2, tm x.toNat ≤ tm j) ∧ -62135596800 ≤ tm j ∧ tm j ≤ 253402300799) ∧
    (∀ i, 0 ≤ ws i ∧ ws i < 2 * wy) ∧ (∀ x ∈ M2, ws x.toNat < wy) ∧ bs ≤ wr.heap.size
/-- The loop over what is seen. -/
def D4 (W0 : World) (bv : Int) (Ls : List Int) (v16 v18 : Value) (wr : World) : Prop := ∃ (j : Nat) (fr : Bool), j ≤ Ls.length ∧ v16 = .bool fr ∧ v18 = .int .i64 (j : Int) ∧ (fr = true ↔ ∀ s ∈ Ls.take j, s ≠ bv) ∧ wr = W0
theorem DW.putp {w wr : World} {gq gm go rb n : Nat} {Ao Ar : Option Addr} {cr : Nat} {nm : Nat → ByteArray} {ws : Nat → Int} {M : List Int} {l h d k m y v : Int} (H : DW w wr gq gm go rb n Ao Ar cr nm ws M l h d k m y v) {i : Nat} (hi : i < n) (h1 : ¬ gq = go) (h2 : ¬ gm = go) (h4 : ∀ q, ofA Ar q → ¬ q = go) (h5 : w.heap.size ≤ go) (u : Int) : DW w (wr.setCell ⟨go, i * 2 + 1, none⟩ (.int .u8 u)) gq gm go rb n Ao Ar cr nm (updW ws i u) M l h d k m y v := by
  have hm : Mod (one go) wr (wr.setCell ⟨go, i * 2 + 1, none⟩ (.int .u8 u)) := (Mod.refl (one go) _).set (p := ⟨go, i * 2 + 1, none⟩) (fun _ => rfl) _
  exact ⟨H.b1.mod hm h1, H.bm.mod hm h2, fun hn => ⟨(H.ko hn).1, (H.ko hn).2.put hi u⟩, H.ro.mod hm (fun q _ _ hq => h4 q hq), H.m.trans hm (fun q hq c => by simp only [one] at c; omega)⟩
/-- The last loop. -/
def D5 (w : World) (gq gm go rb n : Nat) (Ao Ar : Option Addr) (cr : Nat) (nm : Nat → ByteArray) (tm : Nat → Int) (M : List Int) (l h d k m y v : Int) (va : Value) (wr : World) : Prop :=
  ∃ (a : Nat) (M1 M2 : List Int) (ws : Nat → Int), M = M1 ++ M2 ∧ M1.length = a ∧ va = .int .i64 (a : Int) ∧ witW tm v (tm ((M.head?.getD 0).toNat)) M2 ws = planW tm M l h d k m y v ∧ DW w wr gq gm go rb n Ao Ar cr nm ws M l h d k m y v ∧ (∀ i, 0 ≤ ws i ∧ ws i < 128) ∧ (∀ x ∈ M2, ws x.toNat < 64)
theorem ne_of_hid {gq go rb gm gr N : Nat} (h : RowKit.Hid (gq < go ∧ go < rb ∧ rb ≤ gm ∧ rb ≤ gr ∧ N ≤ gq)) : ¬ gq = go ∧ ¬ gm = go ∧ ¬ gr = go ∧ N ≤ go := by have := h.out; omega
/-- In an order by the time what stands behind is no newer. -/
theorem sd_fall {tm : Nat → Int} {M M1 M3 : List Int} {n i : Nat} (h : Sd (keyT tm) M (ints n)) (hMM : M = M1 ++ (i : Int) :: M3) : ∀ x ∈ M3, tm x.toNat ≤ tm i := by
  intro x hx
  have h1 := h.srt
  rw [hMM] at h1
  have h2 := ((List.pairwise_cons.1 (List.pairwise_append.1 h1).2.1).1 x hx).le
  unfold keyT at h2
  rw [Int.toNat_natCast] at h2
  omega
/-- What stands still, and what is known at a shot. -/
structure E3 (w : World) (gq gm go rb bs n : Nat) (Ar : Option Addr) (tm : Nat → Int) (M : List Int) (l h d k m y : Int) (q : Nat) (mo wy : Int) (a : Nat) (M1 M3 : List Int) (e : Nat) (kept last : Int) (ws : Nat → Int) (prev : Option Nat) : Prop where
  mm : M = M1 ++ (e : Int) :: M3
  ma : M1.length = a
  k0 : 0 ≤ kept
  ka : kept ≤ (a : Int)
  fin : inner mo wy (bkt tm q) a ((e : Int) :: M3) kept last ws = partsW tm M (mostF l h d k m y) (q + 1)
  pr : ∀ j, prev = some j → (∀ x ∈ (e : Int) :: M3, tm x.toNat ≤ tm j) ∧ -62135596800 ≤ tm j ∧ tm j ≤ 253402300799
  wb : ∀ z, 0 ≤ ws z ∧ ws z < 2 * wy
  wx : ∀ x ∈ (e : Int) :: M3, ws x.toNat < wy
  en : e < n
  an : a < n
  ti : -62135596800 ≤ tm e ∧ tm e ≤ 253402300799
  sd : Sd (keyT tm) M (ints n)
  s1 : gq < rb
  s2 : gq < go ∧ go < rb
  s3 : rb ≤ gm
  s4 : ∀ j, ofA Ar j → rb ≤ j ∧ j < gm
  s5 : w.heap.size ≤ gq
  s6 : gm < bs
  s7 : ∀ j, ofA Ar j → j < bs
theorem E3.pos {w : World} {gq gm go rb bs n : Nat} {Ar : Option Addr} {tm : Nat → Int} {M : List Int} {l h d k m y : Int} {q : Nat} {mo wy : Int} {a : Nat} {M1 M3 : List Int} {e : Nat} {kept last : Int} {ws : Nat → Int} {prev : Option Nat} (E : E3 w gq gm go rb bs n Ar tm M l h d k m y q mo wy a M1 M3 e kept last ws prev) : 0 < n := by have := E.en; omega
theorem E3.prev_le {w : World} {gq gm go rb bs n : Nat} {Ar : Option Addr} {tm : Nat → Int} {M : List Int} {l h d k m y : Int} {q : Nat} {mo wy : Int} {a : Nat} {M1 M3 : List Int} {e : Nat} {kept last : Int} {ws : Nat → Int} {prev : Option Nat} (E : E3 w gq gm go rb bs n Ar tm M l h d k m y q mo wy a M1 M3 e kept last ws prev) : ∀ j, prev = some j → tm e ≤ tm j ∧ -62135596800 ≤ tm j ∧ tm j ≤ 253402300799 := fun j hj => by
  obtain ⟨h1, h2⟩ := E.pr j hj
  have h3 := h1 (e : Int) (by simp)
  rw [Int.toNat_natCast] at h3
  exact ⟨h3, h2⟩
theorem int64_info : (Try.prog.info? 2).map (fun i => (i.zero, i.size, i.bytes)) = some (some (.int .i64 0), 1, 8) := by kernel_rfl
theorem dw_app {w W W' : World} {gq gm go rb bs n : Nat} {Ao Ar : Option Addr} {cr : Nat} {nm : Nat → ByteArray} {tm : Nat → Int} {M : List Int} {l h d k m y v : Int} {q : Nat} {mo wy : Int} {a : Nat} {M1 M3 : List Int} {e : Nat} {kept last : Int} {ws : Nat → Int} {prev : Option Nat} {As : Option Addr} {ls cs : Nat} {Ls : List Int} (H : DW w W gq gm go rb n Ao Ar cr nm ws M l h d k m y v)
    (E : E3 w gq gm go rb bs n Ar tm M l h d k m y q mo wy a M1 M3 e kept last ws prev) (hr : Row W bs 2 As ls cs Ls) (hm : Mod (ofA As) W W') : DW w W' gq gm go rb n Ao Ar cr nm ws M l h d k m y v := by
  have h6 := E.s6
  have h3 := E.s3
  have h2 := E.s2
  have h1 := E.s1
  have h5 := E.s5
  exact H.mod hm (fun c => by have := (hr.lt c).1; omega) (fun c => by have := (hr.lt c).1; omega) (fun _ c => by have := (hr.lt c).1; omega) (fun j hj c => by have := (hr.lt c).1; have := E.s7 j hj; omega) (fun j hj c => by have := (hr.lt c).1; omega)
theorem d3_no {w W W' : World} {gq gm go rb bs n : Nat} {Ao Ar : Option Addr} {cr : Nat} {nm : Nat → ByteArray} {tm : Nat → Int} {M : List Int} {l h d k m y v : Int} {q : Nat} {mo wy : Int} {a : Nat} {M1 M3 : List Int} {e : Nat} {kept last bv : Int} {ws : Nat → Int} {prev : Option Nat} {As : Option Addr} {ls cs : Nat} {Ls : List Int}
    (E : E3 w gq gm go rb bs n Ar tm M l h d k m y q mo wy a M1 M3 e kept last ws prev) (hdw : DW w W gq gm go rb n Ao Ar cr nm ws M l h d k m y v) (hm : Mod no W W') (hr : Row W bs 2 As ls cs Ls) (hb : bkt tm q a e = bv) (hse : SeenOK tm q (a + 1) bv (some e) Ls) (hno : ¬ (kept < mo ∧ (a = 0 ∨ bv ≠ last))) (hbs : bs ≤ W.heap.size) :
    D3 w gq gm go rb bs n Ao Ar cr nm tm M l h d k m y v q mo wy (.slice As ls cs) (.int .i16 kept) (.int .i64 ((a : Int) + 1)) W' := by
  refine ⟨a + 1, M1 ++ [(e : Int)], M3, kept, bv, ws, some e, As, cs, ls, Ls, by rw [E.mm]; simp, by rw [List.length_append, E.ma]; rfl, rfl, rfl, rfl, E.k0, by have := E.ka; omega, ?_, hdw.mod hm (fun c => c) (fun c => c) (fun _ c => c) (fun _ _ c => c) (fun _ _ c => c), hr.mod hm (fun _ _ _ _ c => c), hse, fun j hj => ?_, E.wb, fun x hx => E.wx x (List.mem_cons_of_mem _ hx), Nat.le_trans hbs hm.size⟩
  · rw [← E.fin]; exact (inner_no hb hno).symm
  · cases hj
    exact ⟨sd_fall E.sd E.mm, E.ti⟩
theorem d3_yes {w W W' : World} {gq gm go rb bs n : Nat} {Ao Ar : Option Addr} {cr : Nat} {nm : Nat → ByteArray} {tm : Nat → Int} {M : List Int} {l h d k m y v : Int} {q : Nat} {mo wy : Int} {a : Nat} {M1 M3 : List Int} {e : Nat} {kept last bv : Int} {ws : Nat → Int} {prev : Option Nat} {As : Option Addr} {ls cs : Nat} {Ls : List Int}
    (E : E3 w gq gm go rb bs n Ar tm M l h d k m y q mo wy a M1 M3 e kept last ws prev) (hdw : DW w W gq gm go rb n Ao Ar cr nm ws M l h d k m y v) (hm : Mod no (W.setCell ⟨go, e * 2 + 1, none⟩ (.int .u8 (ws e + wy))) W') (hr : Row W bs 2 As ls cs Ls) (hb : bkt tm q a e = bv) (hse : SeenOK tm q (a + 1) bv (some e) Ls) (hk : kept < mo) (hc : a = 0 ∨ bv ≠ last) (hbs : bs ≤ W.heap.size) :
    D3 w gq gm go rb bs n Ao Ar cr nm tm M l h d k m y v q mo wy (.slice As ls cs) (.int .i16 (kept + 1)) (.int .i64 ((a : Int) + 1)) W' := by
  have hg2 := E.s2
  have hput := hdw.putp E.en (by omega) (by have := E.s3; omega) (fun j hj => by have := (E.s4 j hj).1; omega) (by have := E.s5; omega) (ws e + wy)
  have hm2 : Mod (one go) W (W.setCell ⟨go, e * 2 + 1, none⟩ (.int .u8 (ws e + wy))) := (Mod.refl (one go) _).set (p := ⟨go, e * 2 + 1, none⟩) (fun _ => rfl) _
  have hr2 := hr.mod hm2 (fun j hj _ _ c => by simp only [one] at c; have := E.s6; have := E.s3; omega)
  refine ⟨a + 1, M1 ++ [(e : Int)], M3, kept + 1, bv, updW ws e (ws e + wy), some e, As, cs, ls, Ls, by rw [E.mm]; simp, by rw [List.length_append, E.ma]; rfl, rfl, rfl, rfl, by have := E.k0; omega, by have := E.ka; omega, ?_, hput.mod hm (fun c => c) (fun c => c) (fun _ c => c) (fun _ _ c => c) (fun _ _ c => c), hr2.mod hm (fun _ _ _ _ c => c), hse, fun j hj => ?_, fun z => ?_, fun x hx => ?_, Nat.le_trans hbs (Nat.le_trans hm2.size hm.size)⟩
  · rw [← E.fin]; exact (inner_yes hb hk hc).symm
  · cases hj
    exact ⟨sd_fall E.sd E.mm, E.ti⟩
  · unfold updW
    have h1 := E.wb z
    have h2 := E.wb e
    have h3 := E.wx (e : Int) (by simp)
    rw [Int.toNat_natCast] at h3
    split <;> omega
  · unfold updW
    rw [if_neg (rest_ne E.sd E.mm hx)]
    exact E.wx x (List.mem_cons_of_mem _ hx)
set_option maxRecDepth 100000 in
set_option maxHeartbeats 200000000 in
theorem rplan_any {w : World} {A : Option Addr} {b o n c : Nat} {nm : Nat → ByteArray} {tm : Nat → Int} {l h d k m y v : Int} (H : ShA w A b o n nm tm) (hn : n ≤ 1048500)
    (hl : l ≤ 32767) (hh : h ≤ 32767) (hd : d ≤ 32767) (hk : k ≤ 32767) (hm : m ≤ 32767) (hy : y ≤ 32767) (hv : v ≤ 9223372036854775807) :
    Calls Try.prog 21 #[.slice A n c, rv l h d k m y v] w (RPlanP w n nm tm l h d k m y v) := by
  have HH := Lib.hid H
  have HN := Lib.hid hn
  have HM := Lib.hid (And.intro hl (And.intro hh (And.intro hd (And.intro hk (And.intro hm (And.intro hy hv))))))
  have HR := Lib.hid (fun W => rright_any l h d k m y v W)
  unfold rv at HR ⊢
  clear H hn hl hh hd hk hm hy hv
  by_cases hnn : 4096 < n
  · have g1 : (4096 : Int) < (n : Int) := by omega
    go_enter Try.func21, Try.ntmps21
    go_wp2_with fail
    go_ret2
    exact ⟨(Mod.refl no w).alloc _, .inl ⟨hnn, rfl⟩⟩
  have g1 : ¬ (4096 : Int) < (n : Int) := by omega
  have HNN := Lib.hid (Nat.le_of_not_lt hnn)
  clear hnn
  by_cases hr : rightB l h d k m y v = true
  rotate_left
  · have hr' : rightB l h d k m y v = false := by simpa using hr
    go_enter Try.func21, Try.ntmps21
    go_wp2_with (go_at_call 41; refine (HR.out _).mono ?_; rintro e w1 ⟨rfl, hb1⟩; rw [hr'])
    go_ret2
    exact ⟨((Mod.refl no w).alloc _).and_then (Mod.of_new hb1), .inr (.inl ⟨HNN.out, hr', rfl⟩)⟩
  obtain ⟨i0, hi0, hz0, hz1, hz2⟩ := info_parts kept_info
  have HI0 := Lib.hid (And.intro hi0 (And.intro hz0 (And.intro hz1 hz2)))
  clear hi0 hz0 hz1 hz2
  go_enter Try.func21, Try.ntmps21
  go_wp2_with (go_at_call 41; refine (HR.out _).mono ?_; rintro e w1 ⟨rfl, hb1⟩; rw [hr]
               have hm1 : Mod no w w1 := ((Mod.refl no w).alloc _).and_then (Mod.of_new hb1)
               have HB := Lib.hid (show Blk w1 w.heap.size 50 #[.int .i16 l, .int .i16 h, .int .i16 d, .int .i16 k, .int .i16 m, .int .i16 y, .int .i64 v] ∧ Mod no w w1 from ⟨(Blk.new w _ _).mod (S := no) (Mod.of_new hb1) (fun c => c), hm1⟩)
               clear hb1 hm1)
  obtain ⟨gq, hgq⟩ : ∃ gq, gq = w.heap.size := ⟨_, rfl⟩
  rw [← hgq] at HB ⊢
  have HGQ := Lib.hid hgq
  clear hgq
  go_loopw [7, 8] (D0 w w1 n nm tm) (fun _ vi _ => n - (intOf vi).toNat)
  case atStart => exact ⟨0, 0, none, Nat.zero_le _, rfl, rfl, World.ownsRow_nil _ _ _ _, Mod.refl _ _, fun j hj => by omega⟩
  case round =>
    obtain ⟨i, c1, A1, hi, rfl, rfl, hown, hM, hin⟩ := hrel
    by_cases hlt : i < n
    · have hsh := HH.out.mod (HB.out.2.and_then hM) (fun _ c => c)
      obtain rfl := hsh.at_ (by omega)
      have c0 := hsh.name i hlt
      have c1' := hsh.time i hlt
      have g2 : (i : Int) < (n : Int) := by omega
      have g3 : ¬ (i : Int) < 0 := by omega
      have HX := Lib.hid (And.intro hown (And.intro hM (And.intro hin (And.intro hlt hsh))))
      have w2 : wrap64 ((i : Int) + 1) = (i : Int) + 1 := IntWalk.wrap64_in _ (by have := HN.out; omega)
      obtain ⟨s, hs⟩ : ∃ s, s = nm i := ⟨_, rfl⟩
      obtain ⟨t, ht⟩ : ∃ t, t = tm i := ⟨_, rfl⟩
      rw [← hs] at c0
      rw [← ht] at c1'
      have HT := Lib.hid (And.intro hs ht)
      clear hown hM hin hlt hsh hs ht hi
      by_cases hins : insideB t = true
      · have hti : -62135596800 ≤ t ∧ t ≤ 253402300799 := by simp [insideB] at hins; omega
        have b1 : decide (t < -62135596800) = false := decide_eq_false (by omega)
        have b2 : decide (253402300799 < t) = false := decide_eq_false (by omega)
        clear hti
        go_wp2_with (first
          | (at_builtin
             refine wpList_append _ rfl (.tmp 47) (.tmp 54) 51 rfl w1.heap.size 58 i0 (.agg #[.string ⟨#[]⟩, .int .u8 0]) 2 24 Try.underlying51 HI0.out.1 HI0.out.2.1 HI0.out.2.2.1 HI0.out.2.2.2 rfl (by decide) (.slice A1 i c1) i (kx nm i) rfl (own_mod HX.out.1 ((Mod.refl no wr).alloc _) (fun _ _ c => c)) (some ⟨wr.heap.size, 0, none⟩) 1 1 [.string s, .int .u8 0] rfl (Rds.of_blk (Blk.new wr _ _) rfl (fun j u hu => by simpa using hu)) (fun u hu => by simp at hu; rcases hu with rfl | rfl <;> rfl) (by have := HN.out; have := HX.out.2.2.2.1; simp only [maxLen]; omega) (by have := HN.out; have := HX.out.2.2.2.1; omega) (by have := HX.out.2.1.size; simp; omega) ?_
             intro v9 w9 hown9 hg9 _ _
             obtain ⟨A9, c9, rfl⟩ := own_form hown9
             have HO := Lib.hid (show w9.ownsRow w1.heap.size 58 2 (.slice A9 (i + 1) c9) (i + 1) (kx nm (i + 1)) ∧ Mod no w1 w9 from ⟨by unfold kx; rw [← HT.out.1]; exact hown9, HX.out.2.1.trans (((Mod.refl _ wr).alloc _).and_then (Mod.of_grown (S := fun k => w1.heap.size ≤ k) hg9 (fun k _ e => own_ge HX.out.1 e))) (fun k hk c => by have c : w1.heap.size ≤ k := c; omega)⟩)
             clear hown9 hg9))
        go_roundw
        case rel => exact ⟨i + 1, c9, A9, HX.out.2.2.2.1, rfl, by go_num, HO.out.1, HO.out.2, fun j hj => by
          rcases Nat.lt_or_ge j i with c | c
          · exact HX.out.2.2.1 j c
          · obtain rfl : j = i := by omega
            rw [← HT.out.2]; exact hins⟩
        case measure =>
          have := HX.out.2.2.2.1
          try rw [w2]
          clear w2
          show n - ((i : Int) + 1).toNat < n - ((i : Int)).toNat
          omega
      · have hin' : allIn n tm = false := by
          cases hc : allIn n tm with
          | false => rfl
          | true => exact absurd (allIn_iff.1 hc i HX.out.2.2.2.1) (by rw [← HT.out.2]; exact hins)
        by_cases hlow : t < -62135596800
        · have b1 : decide (t < -62135596800) = true := decide_eq_true hlow
          go_wp2_with fail
          go_ret2
          exact ⟨HB.out.2.and_then HX.out.2.1, .inr (.inr (.inl ⟨HNN.out, hr, hin', rfl⟩))⟩
        · have b1 : decide (t < -62135596800) = false := decide_eq_false hlow
          have hhi : 253402300799 < t := by simp [insideB] at hins; omega
          have b2 : decide (253402300799 < t) = true := decide_eq_true hhi
          go_wp2_with fail
          go_ret2
          exact ⟨HB.out.2.and_then HX.out.2.1, .inr (.inr (.inl ⟨HNN.out, hr, hin', rfl⟩))⟩
    · obtain rfl : i = n := by omega
      have hall : allIn i tm = true := allIn_iff.2 hin
      obtain ⟨go, hko, hgo⟩ := KO.of_own hown
      have HX := Lib.hid (And.intro hko (And.intro hgo (And.intro hM hall)))
      have HNE := Lib.hid (newest_any (c := c) (HH.out.mod (HB.out.2.and_then hM) (fun _ c => c)) HN.out)
      have g2 : ¬ (i : Int) < (i : Int) := by omega
      have hb1 := HB.out.1.mod hM (fun c => c)
      clear hown hM hin hlt hi hko hgo
      go_wp2_with fail
      refine HNE.out.mono ?_
      rintro e w2 ⟨Ar, cr, M, rfl, hro, hsd, hM2⟩
      have hm2 : Mod no w w2 := HB.out.2.and_then (HX.out.2.2.1.and_then hM2)
      have hb2 := hb1.mod hM2 (fun c => c)
      have q0 := hb2.cell 0
      have q1 := hb2.cell 1
      have q2 := hb2.cell 2
      have q3 := hb2.cell 3
      have q4 := hb2.cell 4
      have q5 := hb2.cell 5
      obtain ⟨gm, hgm⟩ : ∃ gm, gm = w2.heap.size := ⟨_, rfl⟩
      obtain ⟨rb, hrb⟩ : ∃ rb, rb = wr.heap.size := ⟨_, rfl⟩
      rw [← hrb] at hro
      have HQ := Lib.hid (show gq < rb ∧ (0 < i → gq < go ∧ go < rb) ∧ rb ≤ gm ∧ (∀ k, ofA Ar k → rb ≤ k ∧ k < gm) ∧ w.heap.size ≤ gq from ⟨by rw [hrb]; exact hb1.lt, fun h => by have h1 := HX.out.2.1 h; have h2 := HB.out.1.lt; rw [hrb]; omega, by rw [hrb, hgm]; exact hM2.size, fun k hk => by have := hro.lt hk; rw [hgm]; exact this, by rw [HGQ.out]; exact Nat.le_refl _⟩)
      have HD2 := Lib.hid (show D2 w gq gm go rb i A1 Ar cr nm tm M l h d k m y v (.int .u8 1) (.int .i64 0) (w2.alloc (.cells (mostCells l h d k m y) 36)) from ⟨0, by omega, rfl, rfl, ⟨hb2.alloc _, by rw [hgm]; exact Blk.new _ _ _, (HX.out.1.mod hM2 (fun _ c => c)).mod (S := no) ((Mod.refl _ _).alloc _) (fun _ c => c), hro.mod (S := no) ((Mod.refl _ _).alloc _) (fun _ _ _ _ c => c), hm2.alloc _⟩⟩)
      have HSD := Lib.hid hsd
      have hMl : M.length = i := by rw [hsd.len, ints_len]
      have HML := Lib.hid hMl
      clear hro hsd hM2 hm2 hb2 hb1 hrb hMl
      go_wp2_with fail
      rw [← hgm]
      clear hgm q0 q1 q2 q3 q4 q5
      go_loopw [11, 12] (D2 w gq gm go rb i A1 Ar cr nm tm M l h d k m y v) (fun _ vq _ => 6 - (intOf vq).toNat)
      case atStart => first | exact HD2.out | (have h := HD2.out; unfold mostCells at h; exact h)
      case round =>
        clear HD2
        obtain ⟨q, hq, rfl, rfl, hdw⟩ := hrel
        by_cases hq6 : q < 6
        · have g3 : (q : Int) < 6 := by omega
          have g4 : ¬ (q : Int) < 0 := by omega
          obtain ⟨mo, hmo⟩ : ∃ mo, mo = mostF l h d k m y q := ⟨_, rfl⟩
          obtain ⟨wy, hwy⟩ : ∃ wy, wy = (2 : Int) ^ q := ⟨_, rfl⟩
          rw [← hwy]
          obtain ⟨bs, hbs⟩ : ∃ bs, bs = wr.heap.size := ⟨_, rfl⟩
          have hbd := partsW_bd (tm := tm) (M := M) (most := mostF l h d k m y) (sd_ne HSD.out) (sd_pos HSD.out) q
          have hwy2 : 1 ≤ wy ∧ wy ≤ 32 := by rw [hwy]; exact pow_bd hq6
          have HWY := Lib.hid (And.intro hwy (And.intro hmo hwy2))
          have HD3 := Lib.hid (show D3 w gq gm go rb bs i A1 Ar cr nm tm M l h d k m y v q mo wy (.slice none 0 0) (.int .i16 0) (.int .i64 0) wr from
            ⟨0, [], M, 0, 0, _, none, none, 0, 0, [], rfl, rfl, rfl, rfl, rfl, Int.le_refl _, Int.le_refl _, by rw [hwy, hmo]; rfl, hdw, Row.nil _ _ _, SeenOK.start _ _, (fun j hj => by cases hj), fun z => by rw [hwy]; have := hbd z; omega, fun x _ => by rw [hwy]; exact (hbd _).2, by rw [hbs]; exact Nat.le_refl _⟩)
          have HBS := Lib.hid (show gm < bs ∧ gq < bs ∧ (0 < i → go < bs) ∧ (∀ k, ofA Ar k → k < bs) from ⟨by rw [hbs]; exact hdw.bm.lt, by rw [hbs]; exact hdw.b1.lt, fun h => by rw [hbs]; exact (hdw.ko h).2.lt, fun k hk => by rw [hbs]; exact (hdw.ro.lt hk).2⟩)
          have HQ6 := Lib.hid (And.intro hq6 (show wrap64 ((q : Int) + 1) = (q : Int) + 1 ∧ IntKind.u8.wrap (wy * 2) = wy * 2 from ⟨IntWalk.wrap64_in _ (by omega), IntWalk.u8_in _ (by omega)⟩))
          clear hbd hwy2 hmo hwy hbs hdw hq hq6
          go_wp2_with fail
          go_loopw [13, 14, 15] (D3 w gq gm go rb bs i A1 Ar cr nm tm M l h d k m y v q mo wy) (fun _ _ va _ => i - (intOf va).toNat)
          case atStart => exact HD3.out
          case round =>
            clear HD3
            obtain ⟨a, M1, M2, kept, last, ws, prev, As, cs, ls, Ls, hMM, hMa, rfl, rfl, rfl, hk0, hka, hfin, hdw, hrs, hse, hpr, hwb, hwx, hbsz⟩ := hrel
            by_cases hlt : a < i
            · obtain ⟨x, M3, rfl⟩ : ∃ x M3, M2 = x :: M3 := by
                cases M2 with
                | nil => exfalso; have := HML.out; rw [hMM] at this; simp at this; omega
                | cons x t => exact ⟨x, t, rfl⟩
              obtain ⟨hx0, hxj⟩ := mem_ints.1 (HSD.out.perm.mem_iff.1 (show x ∈ M by rw [hMM]; simp))
              obtain ⟨e, rfl⟩ : ∃ e : Nat, x = (e : Int) := ⟨x.toNat, by omega⟩
              rw [Int.toNat_natCast] at hxj
              have hti := allIn_iff.1 HX.out.2.2.2 e hxj
              have hti2 : -62135596800 ≤ tm e ∧ tm e ≤ 253402300799 := by simp [insideB] at hti; omega
              have hsh := HH.out.mod hdw.m (fun _ c => c)
              obtain rfl := hsh.at_ (by omega)
              obtain ⟨rfl, hkb⟩ := hdw.ko (by omega)
              obtain ⟨gr, orr, rfl, _, _, co, _⟩ := hdw.ro.get (j := a) hlt
              rw [hMM, getD_mid hMa.symm] at co
              have ct := hsh.time e hxj
              have cm : wr.cell? ⟨gm, q, none⟩ = some (.int .i16 mo) := by rw [hdw.bm.cell, mostc _ _ _ _ _ _ HQ6.out.1, HWY.out.2.1]
              obtain ⟨t, ht⟩ : ∃ t, t = tm e := ⟨_, rfl⟩
              rw [← ht] at ct
              have hq0 := HQ.out
              have hq1 := HBS.out
              have HE := Lib.hid (show E3 w gq gm go rb bs i (some ⟨gr, orr, none⟩) tm M l h d k m y q mo wy a M1 M3 e kept last ws prev from ⟨hMM, hMa, hk0, hka, hfin, hpr, hwb, hwx, hxj, hlt, hti2, HSD.out, hq0.1, hq0.2.1 (by omega), hq0.2.2.1, hq0.2.2.2.1, hq0.2.2.2.2, hq1.1, hq1.2.2.2⟩)
              have HDW := Lib.hid hdw
              have HRS := Lib.hid (And.intro hrs (And.intro hse hbsz))
              have HT := Lib.hid ht
              have g5 : (a : Int) < (i : Int) := by omega
              have g6 : ¬ (a : Int) < 0 := by omega
              have g7 : (e : Int) < (i : Int) := by omega
              have g8 : ¬ (e : Int) < 0 := by omega
              have hw0 := hwx (e : Int) (by simp)
              rw [Int.toNat_natCast] at hw0
              have WW := Lib.hid (show wrap64 ((a : Int) + 1) = (a : Int) + 1 ∧ IntKind.i16.wrap (kept + 1) = kept + 1 ∧ IntKind.u8.wrap (ws e + wy) = ws e + wy from ⟨IntWalk.wrap64_in _ (by have := HN.out; omega), IntWalk.i16_in _ (by have := HNN.out; omega), IntWalk.u8_in _ (by have := hwb e; have := HWY.out.2.2; omega)⟩)
              clear hMM hMa hk0 hka hfin hdw hrs hse hpr hwb hwx hlt hbsz hx0 hxj hti hti2 hsh hkb ht hq0 hq1 hw0
              by_cases hq0 : q = 0
              · have d0 : ¬ 0 < q := by omega
                have d1 : ¬ (0 : Int) < (q : Int) := by omega
                have hz := (show SeenOK tm 0 a last prev Ls by rw [← hq0]; exact HRS.out.2.1).zero (i := e)
                have hbk : bkt tm q a e = pb 0 (a : Int) (tm e) := by rw [hq0]; rfl
                have HZ := Lib.hid (show SeenOK tm q (a + 1) (pb 0 (a : Int) (tm e)) (some e) Ls ∧ (a = 0 ∨ pb 0 (a : Int) (tm e) ≠ last) ∧ bkt tm q a e = pb 0 (a : Int) (tm e) from ⟨by rw [hq0]; exact hz.1, hz.2.2, hbk⟩)
                clear hz hbk hq0
                by_cases h1 : kept < mo
                · have H1 := Lib.hid h1
                  skip
                  have cw : wr.cell? ⟨go, e * 2 + 1, none⟩ = some (.int .u8 (ws e)) := (HDW.out.ko HE.out.pos).2.why HE.out.en
                  have rw0 := (HDW.out.ko HE.out.pos).2.free (e * 2 + 1)
                  have hl0 := (HDW.out.ko HE.out.pos).2.lt
                  have w4 := WW.out.2.2
                  go_wp2_with fail
                  go_region
                  clear w4 cw rw0 hl0
                  go_wp2_with fail
                  go_roundw
                  case rel =>
                    try rw [WW.out.2.1]
                    try rw [WW.out.1]
                    exact d3_yes HE.out HDW.out (by first | exact (Mod.refl _ _).drew | exact Mod.refl _ _) HRS.out.1 HZ.out.2.2 HZ.out.1 (lt_of_hid H1) HZ.out.2.1 HRS.out.2.2
                  case measure =>
                    have := HE.out.an
                    try rw [WW.out.1]
                    show i - ((a : Int) + 1).toNat < i - ((a : Int)).toNat
                    omega
                · have H1 := Lib.hid (show mo ≤ kept from Int.not_lt.1 h1)
                  skip
                  go_wp2_with fail
                  go_roundw
                  case rel =>
                    try rw [WW.out.1]
                    exact d3_no HE.out HDW.out (Mod.refl _ _) HRS.out.1 HZ.out.2.2 HZ.out.1 (fun hh => Int.lt_irrefl _ (Int.lt_of_lt_of_le hh.1 (le_of_hid H1))) HRS.out.2.2
                  case measure =>
                    have := HE.out.an
                    try rw [WW.out.1]
                    show i - ((a : Int) + 1).toNat < i - ((a : Int)).toNat
                    omega
              · have d0 : 0 < q := by omega
                have d1 : (0 : Int) < (q : Int) := by omega
                have hq5 : q ≤ 5 := by have := HQ6.out.1; omega
                obtain ⟨hl0, hl1⟩ := HRS.out.1
                subst hl0
                have HBK := Lib.hid (rbucket_any (k := q) d0 hq5 t wr (by rw [HT.out]; exact HE.out.ti.1) (by rw [HT.out]; exact HE.out.ti.2))
                obtain ⟨bv, hbv⟩ : ∃ bv, bv = PL.rb q t := ⟨_, rfl⟩
                rw [← hbv] at HBK
                have hfre := HRS.out.2.1.fresh d0 hq5 HE.out.ti HE.out.prev_le
                rw [← HT.out, ← hbv] at hfre
                have HFR := Lib.hid hfre
                have HBV := Lib.hid hbv
                have HQ5 := Lib.hid (And.intro d0 hq5)
                clear hfre hbv hq5 hl1
                go_wp2_with fail
                refine HBK.out.mono ?_
                rintro r8 w8 ⟨rfl, hb8⟩
                have hm8 : Mod no wr w8 := Mod.of_new hb8
                have HDW8 := Lib.hid (HDW.out.mod hm8 (fun c => c) (fun c => c) (fun _ c => c) (fun _ _ c => c) (fun _ _ c => c))
                have HRS8 := Lib.hid (HRS.out.1.mod hm8 (fun _ _ _ _ c => c))
                have HBS8 := Lib.hid (Nat.le_trans HRS.out.2.2 hm8.size)
                have co8 : w8.cell? ⟨gr, orr + a, none⟩ = some (.int .i64 (e : Int)) := (hm8.cell (p := ⟨gr, orr + a, none⟩) (PL.cell_lt co) (fun c => c)).trans co
                have cm8 : w8.cell? ⟨gm, q, none⟩ = some (.int .i16 mo) := (hm8.cell (p := ⟨gm, q, none⟩) (PL.cell_lt cm) (fun c => c)).trans cm
                clear hb8 hm8 co cm ct
                go_wp2_with fail
                go_loopw [16, 18] (D4 w8 bv Ls) (fun _ vj _ => Ls.length - (intOf vj).toNat)
                case atStart => exact ⟨0, true, Nat.zero_le _, rfl, rfl, by simp, rfl⟩
                case round =>
                  obtain ⟨j, fr, hj, rfl, rfl, hfr, rfl⟩ := hrel
                  by_cases hj2 : j < Ls.length
                  · obtain ⟨g5, o5, rfl, hg5, hl5, cj, _⟩ := HRS8.out.get (j := j) hj2
                    obtain ⟨s, hs⟩ : ∃ s, s = Ls.getD j 0 := ⟨_, rfl⟩
                    rw [← hs] at cj
                    have hst : Ls.take (j + 1) = Ls.take j ++ [s] := by rw [List.take_add_one, hs, List.getD_eq_getElem?_getD, List.getElem?_eq_getElem hj2]; rfl
                    have HJ := Lib.hid (And.intro hj2 (And.intro hfr hst))
                    have g9 : (j : Int) < (Ls.length : Int) := by omega
                    have g10 : ¬ (j : Int) < 0 := by omega
                    have W5 := Lib.hid (show wrap64 ((j : Int) + 1) = (j : Int) + 1 from IntWalk.wrap64_in _ (by have := HRS.out.2.1.1; omega))
                    clear hj hfr hs hst hj2 hg5 hl5
                    by_cases hsb : s = bv
                    · have e1 : (s == bv) = true := by rw [beq_iff_eq]; exact hsb
                      have HSB := Lib.hid hsb
                      clear hsb
                      have w5 := W5.out
                      go_wp2_with fail
                      go_roundw
                      case rel => exact ⟨j + 1, false, HJ.out.1, rfl, by go_num, by
                        rw [HJ.out.2.2]
                        constructor
                        · intro h; cases h
                        · intro h; exact absurd HSB.out (h s (by simp)), rfl⟩
                      case measure =>
                        have := HJ.out.1
                        try rw [w5]
                        clear w5
                        show Ls.length - ((j : Int) + 1).toNat < Ls.length - ((j : Int)).toNat
                        omega
                    · have e1 : (s == bv) = false := by rw [beq_eq_false_iff_ne]; exact hsb
                      have HSB := Lib.hid hsb
                      clear hsb
                      have w5 := W5.out
                      go_wp2_with fail
                      go_roundw
                      case rel => exact ⟨j + 1, fr, HJ.out.1, rfl, by go_num, by
                        rw [HJ.out.2.2, HJ.out.2.1]
                        constructor
                        · intro h s' hs'
                          rcases List.mem_append.1 hs' with hs' | hs'
                          · exact h s' hs'
                          · rw [List.mem_singleton.1 hs']; exact HSB.out
                        · intro h s' hs'; exact h s' (List.mem_append_left _ hs'), rfl⟩
                      case measure =>
                        have := HJ.out.1
                        try rw [w5]
                        clear w5
                        show Ls.length - ((j : Int) + 1).toNat < Ls.length - ((j : Int)).toNat
                        omega
                  · obtain rfl : j = Ls.length := by omega
                    rw [List.take_of_length_le (Nat.le_refl _)] at hfr
                    have g9 : ¬ (Ls.length : Int) < (Ls.length : Int) := by omega
                    have HC := Lib.hid (hfr.trans HFR.out)
                    clear hj hfr hj2
                    cases fr with
                    | false =>
                      have HNC := Lib.hid (show ¬ (a = 0 ∨ pb q (a : Int) (tm e) ≠ last) by rw [← HT.out]; exact fun h => Bool.noConfusion (HC.out.2 h))
                      have HSN := Lib.hid (HRS.out.2.1.same HQ5.out.1 HQ5.out.2 HE.out.ti HE.out.prev_le HNC.out)
                      clear d0 d1 hq0 co8 cm8
                      go_wp2_with fail
                      go_roundw
                      case rel =>
                        try rw [WW.out.1]
                        exact d3_no HE.out HDW8.out (Mod.refl _ _) HRS8.out rfl HSN.out (fun hh => HNC.out hh.2) HBS8.out
                      case measure =>
                        have := HE.out.an
                        try rw [WW.out.1]
                        show i - ((a : Int) + 1).toNat < i - ((a : Int)).toNat
                        omega
                    | true =>
                      have HCC := Lib.hid (HC.out.1 rfl)
                      by_cases h70 : Ls.length < 70
                      · have g11 : (Ls.length : Int) < 70 := by omega
                        have HSN := Lib.hid (HRS.out.2.1.next HQ5.out.1 HE.out.ti.1 HE.out.prev_le (L2 := Ls) (fun s hs => hs) (by omega))
                        rw [← HT.out, ← HBV.out] at HSN
                        have H70 := Lib.hid h70
                        clear h70
                        by_cases h1 : kept < mo
                        · have H1 := Lib.hid h1
                          go_wp2_with (first
                            | (at_builtin
                               refine wpList_row1 rfl (.tmp 113) (.tmp 115) 85 rfl bs 2 Try.underlying85 int64_info wr As Ls.length _ Ls bv rfl rfl HRS8.out (by have := HRS.out.2.1.1; first | omega | (simp at this; omega)) HBS8.out ?_
                               intro A9 c9 w9 hr9 hm9 hx1 hx2
                               have HR9 := Lib.hid (And.intro hr9 (And.intro (dw_app HDW8.out HE.out HRS8.out hm9) (And.intro (Nat.le_trans HBS8.out hm9.size) hm9)))
                               have co9 : w9.cell? ⟨gr, orr + a, none⟩ = some (.int .i64 (e : Int)) := (HR9.out.2.2.2.cell (p := ⟨gr, orr + a, none⟩) (PL.cell_lt co8) (fun c => by have h1 := (HRS8.out.lt c).1; have h2 := HE.out.s7 gr ⟨orr, rfl⟩; have h1 : bs ≤ gr := h1; omega)).trans co8
                               have cm9 : w9.cell? ⟨gm, q, none⟩ = some (.int .i16 mo) := (HR9.out.2.2.2.cell (p := ⟨gm, q, none⟩) (PL.cell_lt cm8) (fun c => by have h1 := (HRS8.out.lt c).1; have h2 := HE.out.s6; have h1 : bs ≤ gm := h1; omega)).trans cm8
                               have cw9 : w9.cell? ⟨go, e * 2 + 1, none⟩ = some (.int .u8 (ws e)) := (HR9.out.2.1.ko HE.out.pos).2.why HE.out.en
                               have rw9 := (HR9.out.2.1.ko HE.out.pos).2.free (e * 2 + 1)
                               have hl9 := (HR9.out.2.1.ko HE.out.pos).2.lt
                               have w4 := WW.out.2.2
                               clear hr9 hm9 co8 cm8 hx1 hx2 g11 d0 d1 hq0))
                          go_region
                          clear w4 cw9 rw9 hl9 co9 cm9
                          go_wp2_with fail
                          go_roundw
                          case rel =>
                            try rw [WW.out.2.1]
                            try rw [WW.out.1]
                            exact d3_yes HE.out HR9.out.2.1 (by first | exact (Mod.refl _ _).drew | exact Mod.refl _ _) HR9.out.1 (by rw [HT.out]; rfl) HSN.out (lt_of_hid H1) HCC.out HR9.out.2.2.1
                          case measure =>
                            have := HE.out.an
                            try rw [WW.out.1]
                            show i - ((a : Int) + 1).toNat < i - ((a : Int)).toNat
                            omega
                        · have H1 := Lib.hid (show mo ≤ kept from Int.not_lt.1 h1)
                          go_wp2_with (first
                            | (at_builtin
                               refine wpList_row1 rfl (.tmp 113) (.tmp 115) 85 rfl bs 2 Try.underlying85 int64_info wr As Ls.length _ Ls bv rfl rfl HRS8.out (by have := HRS.out.2.1.1; first | omega | (simp at this; omega)) HBS8.out ?_
                               intro A9 c9 w9 hr9 hm9 hx1 hx2
                               have HR9 := Lib.hid (And.intro hr9 (And.intro (dw_app HDW8.out HE.out HRS8.out hm9) (And.intro (Nat.le_trans HBS8.out hm9.size) hm9)))
                               have co9 : w9.cell? ⟨gr, orr + a, none⟩ = some (.int .i64 (e : Int)) := (HR9.out.2.2.2.cell (p := ⟨gr, orr + a, none⟩) (PL.cell_lt co8) (fun c => by have h1 := (HRS8.out.lt c).1; have h2 := HE.out.s7 gr ⟨orr, rfl⟩; have h1 : bs ≤ gr := h1; omega)).trans co8
                               have cm9 : w9.cell? ⟨gm, q, none⟩ = some (.int .i16 mo) := (HR9.out.2.2.2.cell (p := ⟨gm, q, none⟩) (PL.cell_lt cm8) (fun c => by have h1 := (HRS8.out.lt c).1; have h2 := HE.out.s6; have h1 : bs ≤ gm := h1; omega)).trans cm8
                               have cw9 : w9.cell? ⟨go, e * 2 + 1, none⟩ = some (.int .u8 (ws e)) := (HR9.out.2.1.ko HE.out.pos).2.why HE.out.en
                               have rw9 := (HR9.out.2.1.ko HE.out.pos).2.free (e * 2 + 1)
                               have hl9 := (HR9.out.2.1.ko HE.out.pos).2.lt
                               have w4 := WW.out.2.2
                               clear hr9 hm9 co8 cm8 hx1 hx2 g11 d0 d1 hq0))
                          go_roundw
                          case rel =>
                            try rw [WW.out.1]
                            exact d3_no HE.out HR9.out.2.1 (Mod.refl _ _) HR9.out.1 (by rw [HT.out]; rfl) HSN.out (fun hh => Int.lt_irrefl _ (Int.lt_of_lt_of_le hh.1 (le_of_hid H1))) HR9.out.2.2.1
                          case measure =>
                            have := HE.out.an
                            try rw [WW.out.1]
                            show i - ((a : Int) + 1).toNat < i - ((a : Int)).toNat
                            omega
                      · have hL70 : Ls.length = 70 := by have := HRS.out.2.1.1; omega
                        obtain ⟨s0, L2, rfl⟩ : ∃ s0 L2, Ls = s0 :: L2 := by
                          cases Ls with
                          | nil => cases hL70
                          | cons s t => exact ⟨s, t, rfl⟩
                        have hl2 : L2.length = 69 := by rw [List.length_cons] at hL70; omega
                        have HSN := Lib.hid (HRS.out.2.1.next HQ5.out.1 HE.out.ti.1 HE.out.prev_le (L2 := L2) (fun s hs => List.mem_cons_of_mem _ hs) (by omega))
                        rw [← HT.out, ← HBV.out] at HSN
                        obtain ⟨c2, rfl⟩ : ∃ c2, cs = c2 + 70 := ⟨cs - 70, by have := HRS8.out.cap; omega⟩
                        obtain ⟨g5, o5, rfl, hrt⟩ := HRS8.out.tail
                        rw [hL70] at hrt
                        have HRT := Lib.hid (show Row wr bs 2 (some ⟨g5, o5 + 1, none⟩) 69 (c2 + 69) L2 from hrt)
                        have H70 := Lib.hid hL70
                        clear hrt hL70 h70
                        by_cases h1 : kept < mo
                        · have H1 := Lib.hid h1
                          go_wp2_with (first
                            | (at_builtin
                               refine wpList_row1 rfl (.tmp 119) (.tmp 121) 85 rfl bs 2 Try.underlying85 int64_info wr (some ⟨g5, o5 + 1, none⟩) 69 (c2 + 69) L2 bv rfl rfl HRT.out (by decide) HBS8.out ?_
                               intro A9 c9 w9 hr9 hm9 hx1 hx2
                               have HR9 := Lib.hid (And.intro hr9 (And.intro (dw_app HDW8.out HE.out HRT.out hm9) (And.intro (Nat.le_trans HBS8.out hm9.size) hm9)))
                               have co9 : w9.cell? ⟨gr, orr + a, none⟩ = some (.int .i64 (e : Int)) := (HR9.out.2.2.2.cell (p := ⟨gr, orr + a, none⟩) (PL.cell_lt co8) (fun c => by have h1 := (HRT.out.lt c).1; have h2 := HE.out.s7 gr ⟨orr, rfl⟩; have h1 : bs ≤ gr := h1; omega)).trans co8
                               have cm9 : w9.cell? ⟨gm, q, none⟩ = some (.int .i16 mo) := (HR9.out.2.2.2.cell (p := ⟨gm, q, none⟩) (PL.cell_lt cm8) (fun c => by have h1 := (HRT.out.lt c).1; have h2 := HE.out.s6; have h1 : bs ≤ gm := h1; omega)).trans cm8
                               have cw9 : w9.cell? ⟨go, e * 2 + 1, none⟩ = some (.int .u8 (ws e)) := (HR9.out.2.1.ko HE.out.pos).2.why HE.out.en
                               have rw9 := (HR9.out.2.1.ko HE.out.pos).2.free (e * 2 + 1)
                               have hl9 := (HR9.out.2.1.ko HE.out.pos).2.lt
                               have w4 := WW.out.2.2
                               clear hr9 hm9 co8 cm8 hx1 hx2 hl2 d0 d1 hq0))
                          go_region
                          clear w4 cw9 rw9 hl9 co9 cm9
                          go_wp2_with fail
                          go_roundw
                          case rel =>
                            try rw [WW.out.2.1]
                            try rw [WW.out.1]
                            exact d3_yes HE.out HR9.out.2.1 (by first | exact (Mod.refl _ _).drew | exact Mod.refl _ _) HR9.out.1 (by rw [HT.out]; rfl) HSN.out (lt_of_hid H1) HCC.out HR9.out.2.2.1
                          case measure =>
                            have := HE.out.an
                            try rw [WW.out.1]
                            show i - ((a : Int) + 1).toNat < i - ((a : Int)).toNat
                            omega
                        · have H1 := Lib.hid (show mo ≤ kept from Int.not_lt.1 h1)
                          go_wp2_with (first
                            | (at_builtin
                               refine wpList_row1 rfl (.tmp 119) (.tmp 121) 85 rfl bs 2 Try.underlying85 int64_info wr (some ⟨g5, o5 + 1, none⟩) 69 (c2 + 69) L2 bv rfl rfl HRT.out (by decide) HBS8.out ?_
                               intro A9 c9 w9 hr9 hm9 hx1 hx2
                               have HR9 := Lib.hid (And.intro hr9 (And.intro (dw_app HDW8.out HE.out HRT.out hm9) (And.intro (Nat.le_trans HBS8.out hm9.size) hm9)))
                               have co9 : w9.cell? ⟨gr, orr + a, none⟩ = some (.int .i64 (e : Int)) := (HR9.out.2.2.2.cell (p := ⟨gr, orr + a, none⟩) (PL.cell_lt co8) (fun c => by have h1 := (HRT.out.lt c).1; have h2 := HE.out.s7 gr ⟨orr, rfl⟩; have h1 : bs ≤ gr := h1; omega)).trans co8
                               have cm9 : w9.cell? ⟨gm, q, none⟩ = some (.int .i16 mo) := (HR9.out.2.2.2.cell (p := ⟨gm, q, none⟩) (PL.cell_lt cm8) (fun c => by have h1 := (HRT.out.lt c).1; have h2 := HE.out.s6; have h1 : bs ≤ gm := h1; omega)).trans cm8
                               have cw9 : w9.cell? ⟨go, e * 2 + 1, none⟩ = some (.int .u8 (ws e)) := (HR9.out.2.1.ko HE.out.pos).2.why HE.out.en
                               have rw9 := (HR9.out.2.1.ko HE.out.pos).2.free (e * 2 + 1)
                               have hl9 := (HR9.out.2.1.ko HE.out.pos).2.lt
                               have w4 := WW.out.2.2
                               clear hr9 hm9 co8 cm8 hx1 hx2 hl2 d0 d1 hq0))
                          go_roundw
                          case rel =>
                            try rw [WW.out.1]
                            exact d3_no HE.out HR9.out.2.1 (Mod.refl _ _) HR9.out.1 (by rw [HT.out]; rfl) HSN.out (fun hh => Int.lt_irrefl _ (Int.lt_of_lt_of_le hh.1 (le_of_hid H1))) HR9.out.2.2.1
                          case measure =>
                            have := HE.out.an
                            try rw [WW.out.1]
                            show i - ((a : Int) + 1).toNat < i - ((a : Int)).toNat
                            omega
            · have hM2 : M2 = [] := by
                cases M2 with
                | nil => rfl
                | cons x t => exfalso; have := HML.out; rw [hMM] at this; simp at this; omega
              subst hM2
              have hws : ws = partsW tm M (mostF l h d k m y) (q + 1) := hfin
              rw [hws] at hdw
              obtain rfl : a = i := by have := HML.out; rw [hMM, List.append_nil] at this; omega
              have HO := Lib.hid hdw
              have g5 : ¬ (a : Int) < (a : Int) := by omega
              clear hMM hMa hk0 hka hfin hdw hrs hse hpr hwb hwx hlt hws hbsz
              have w1 := HQ6.out.2.1
              have w2 := HQ6.out.2.2
              go_wp2_with fail
              go_roundw
              case rel => exact ⟨q + 1, HQ6.out.1, by first | exact pow_next HWY.out.1 | (rw [w2]; exact pow_next HWY.out.1), by go_num, HO.out⟩
              case measure =>
                have := HQ6.out.1
                try rw [w1]
                clear w1 w2
                show 6 - ((q : Int) + 1).toNat < 6 - ((q : Int)).toNat
                omega
        · obtain rfl : q = 6 := by omega
          have hbd := partsW_bd (tm := tm) (M := M) (most := mostF l h d k m y) (sd_ne HSD.out) (sd_pos HSD.out) 6
          have HD5 := Lib.hid (show D5 w gq gm go rb i A1 Ar cr nm tm M l h d k m y v (.int .i64 0) wr from ⟨0, [], M, _, rfl, rfl, rfl, rfl, hdw, fun z => by have := hbd z; have e : (2 : Int) ^ 6 = 64 := rfl; omega, fun x _ => (hbd _).2⟩)
          have g3 : ¬ ((6 : Nat) : Int) < 6 := by omega
          clear hdw hbd hq hq6
          go_wp2_with fail
          go_loopw [19] (D5 w gq gm go rb i A1 Ar cr nm tm M l h d k m y v) (fun va _ => i - (intOf va).toNat)
          case atStart => exact HD5.out
          case round =>
            clear HD5
            obtain ⟨a, M1, M2, ws, hMM, hMa, rfl, hfin, hdw, hwb, hwx⟩ := hrel
            by_cases hlt : a < i
            · obtain ⟨x, M3, rfl⟩ : ∃ x M3, M2 = x :: M3 := by
                cases M2 with
                | nil => exfalso; have := HML.out; rw [hMM] at this; simp at this; omega
                | cons x t => exact ⟨x, t, rfl⟩
              obtain ⟨hx0, hxj⟩ := mem_ints.1 (HSD.out.perm.mem_iff.1 (show x ∈ M by rw [hMM]; simp))
              obtain ⟨e, rfl⟩ : ∃ e : Nat, x = (e : Int) := ⟨x.toNat, by omega⟩
              rw [Int.toNat_natCast] at hxj
              obtain ⟨z, Mt, hMz⟩ : ∃ z Mt, M = z :: Mt := by
                cases hM : M with
                | nil => exfalso; have := HML.out; rw [hM] at this; simp at this; omega
                | cons z t => exact ⟨z, t, rfl⟩
              obtain ⟨hz0, hzj⟩ := mem_ints.1 (HSD.out.perm.mem_iff.1 (show z ∈ M by rw [hMz]; simp))
              obtain ⟨z0, rfl⟩ : ∃ z0 : Nat, z = (z0 : Int) := ⟨z.toNat, by omega⟩
              rw [Int.toNat_natCast] at hzj
              have hhead : (M.head?.getD 0).toNat = z0 := by rw [hMz]; rfl
              have hsh := HH.out.mod hdw.m (fun _ c => c)
              obtain rfl := hsh.at_ (by omega)
              have ct := hsh.time e hxj
              have cz := hsh.time z0 hzj
              obtain ⟨rfl, hkb⟩ := hdw.ko (by omega)
              obtain ⟨gr, orr, rfl, _, _, co0, _⟩ := hdw.ro.get (j := 0) (by omega)
              obtain ⟨gr2, or2, hA2, _, _, co, _⟩ := hdw.ro.get (j := a) hlt
              injection hA2 with hA2
              injection hA2 with hA2 hA3
              subst hA2 hA3
              rw [hMM, getD_mid hMa.symm] at co
              rw [hMz, Nat.add_zero] at co0
              have co0 : wr.cell? ⟨gr, orr, none⟩ = some (.int .i64 (z0 : Int)) := co0
              have cv : wr.cell? ⟨gq, 6, none⟩ = some (.int .i64 v) := hdw.b1.cell 6
              have hti := allIn_iff.1 HX.out.2.2.2 e hxj
              have htz := allIn_iff.1 HX.out.2.2.2 z0 hzj
              have hti2 : -62135596800 ≤ tm e ∧ tm e ≤ 253402300799 := by simp [insideB] at hti; omega
              have htz2 : -62135596800 ≤ tm z0 ∧ tm z0 ≤ 253402300799 := by simp [insideB] at htz; omega
              obtain ⟨t, ht⟩ : ∃ t, t = tm e := ⟨_, rfl⟩
              obtain ⟨tz, htz3⟩ : ∃ tz, tz = tm z0 := ⟨_, rfl⟩
              rw [← ht] at ct hti2
              rw [← htz3] at cz htz2
              have hwx0 := hwx (e : Int) (by simp)
              rw [Int.toNat_natCast] at hwx0
              have hq0 := HQ.out
              have HX5 := Lib.hid (And.intro hMM (And.intro hMa (And.intro hfin (And.intro hdw (And.intro hwb (And.intro hwx (And.intro hxj (And.intro hlt (And.intro ht (And.intro htz3 hhead))))))))))
              have WW := Lib.hid (show wrap64 ((a : Int) + 1) = (a : Int) + 1 ∧ wrap64 (tz - t) = tz - t ∧ IntKind.u8.wrap (ws e + 64) = ws e + 64 from ⟨IntWalk.wrap64_in _ (by have := HN.out; omega), IntWalk.wrap64_in _ (by omega), IntWalk.u8_in _ (by have := hwb e; omega)⟩)
              have g5 : (a : Int) < (i : Int) := by omega
              have g6 : ¬ (a : Int) < 0 := by omega
              have g7 : (e : Int) < (i : Int) := by omega
              have g8 : ¬ (e : Int) < 0 := by omega
              have g9 : (z0 : Int) < (i : Int) := by omega
              have g10 : ¬ (z0 : Int) < 0 := by omega
              have g12 : 0 < i := by omega
              have g14 : decide (0 < i) = true := decide_eq_true g12
              have g15 : ¬ i = 0 := by omega
              have g11 : (0 : Int) < (i : Int) := by omega
              have HGG := Lib.hid (show gq < go ∧ go < rb ∧ rb ≤ gm ∧ rb ≤ gr ∧ w.heap.size ≤ gq from ⟨(hq0.2.1 g12).1, (hq0.2.1 g12).2, hq0.2.2.1, (hq0.2.2.2.1 gr ⟨orr, rfl⟩).1, hq0.2.2.2.2⟩)
              clear hMM hMa hfin hdw hwb hwx hxj hlt hsh hti htz hti2 htz2 ht htz3 hhead hMz hz0 hzj hx0 hwx0 hkb hq0
              have w2 := WW.out.1
              have w4 := WW.out.2.1
              by_cases h1 : 0 < v
              · have d1 : decide (0 < v) = true := decide_eq_true h1
                have H1 := Lib.hid h1
                by_cases h2 : tz - t ≤ v
                · have d2 : decide (tz - t ≤ v) = true := decide_eq_true h2
                  have H2 := Lib.hid h2
                  go_wp2_with fail
                  go_quiet (fail)
                  have hm8 : Mod no wr (wr.drewN nq) := (Mod.refl no wr).drewN nq
                  have co8 : (wr.drewN nq).cell? ⟨gr, orr + a, none⟩ = some (.int .i64 (e : Int)) := by simpa using co
                  generalize wr.drewN nq = w8 at *
                  have hdw8 := HX5.out.2.2.2.1.mod hm8 (fun c => c) (fun c => c) (fun _ c => c) (fun _ _ c => c) (fun _ _ c => c)
                  have cw8 : w8.cell? ⟨go, e * 2 + 1, none⟩ = some (.int .u8 (ws e)) := (hdw8.ko g12).2.why HX5.out.2.2.2.2.2.2.1
                  have rw8 := (hdw8.ko g12).2.free (e * 2 + 1)
                  have hl8 := (hdw8.ko g12).2.lt
                  have HD8 := Lib.hid hdw8
                  have w5 := WW.out.2.2
                  clear hdw8 hm8 ct cz co co0 cv
                  go_wp2_with fail
                  go_region
                  go_wp2_with fail
                  go_roundw
                  case rel =>
                    obtain ⟨hMM, hMa, hfin, hdw, hwb, hwx, hxj, hlt, ht, htz, hhead⟩ := HX5.out
                    have hput := HD8.out.putp hxj (ne_of_hid HGG).1 (ne_of_hid HGG).2.1 (fun j hj => by obtain ⟨oj, hj⟩ := hj; injection hj with hj; injection hj with hj; subst hj; exact (ne_of_hid HGG).2.2.1) (ne_of_hid HGG).2.2.2 (ws e + 64)
                    refine ⟨a + 1, M1 ++ [(e : Int)], M3, updW ws e (ws e + 64), by rw [hMM]; simp, by rw [List.length_append, hMa]; rfl, by go_num, ?_, by first | exact hput | exact hput.mod (S := no) (Mod.refl no _).drew (fun c => c) (fun c => c) (fun _ c => c) (fun _ _ c => c) (fun _ _ c => c), fun z => ?_, fun x hx => ?_⟩
                    · rw [← hfin]
                      exact (wit_yes (by rw [hhead, ← htz, ← ht]; exact ⟨lt_of_hid H1, le_of_hid H2⟩)).symm
                    · clear w2 w4 w5
                      unfold updW
                      have h1 := hwb z
                      have h2 := hwb e
                      have h3 := hwx (e : Int) (by simp)
                      rw [Int.toNat_natCast] at h3
                      split <;> omega
                    · have h3 := hwx x (List.mem_cons_of_mem _ hx)
                      unfold updW
                      rw [if_neg (rest_ne HSD.out hMM hx)]
                      exact h3
                  case measure =>
                    have := HX5.out.2.2.2.2.2.2.2.1
                    try rw [w2]
                    clear w2 w4 w5
                    show i - ((a : Int) + 1).toNat < i - ((a : Int)).toNat
                    omega
                · have d2 : decide (tz - t ≤ v) = false := decide_eq_false h2
                  have H2 := Lib.hid (Int.not_le.1 h2)
                  go_wp2_with fail
                  go_quiet (fail)
                  clear ct cz co co0 cv
                  go_wp2_with fail
                  go_roundw
                  case rel =>
                    obtain ⟨hMM, hMa, hfin, hdw, hwb, hwx, hxj, hlt, ht, htz, hhead⟩ := HX5.out
                    refine ⟨a + 1, M1 ++ [(e : Int)], M3, ws, by rw [hMM]; simp, by rw [List.length_append, hMa]; rfl, by go_num, ?_, hdw.mod ((Mod.refl no wr).drewN nq) (fun c => c) (fun c => c) (fun _ c => c) (fun _ _ c => c) (fun _ _ c => c), hwb, fun x hx => hwx x (List.mem_cons_of_mem _ hx)⟩
                    rw [← hfin]
                    exact (wit_no (by rw [hhead, ← htz, ← ht]; exact fun hh => Int.lt_irrefl _ (Int.lt_of_lt_of_le (lt_of_hid H2) hh.2))).symm
                  case measure =>
                    have := HX5.out.2.2.2.2.2.2.2.1
                    try rw [w2]
                    clear w2 w4
                    show i - ((a : Int) + 1).toNat < i - ((a : Int)).toNat
                    omega
              · have d1 : decide (0 < v) = false := decide_eq_false h1
                have H1 := Lib.hid (Int.not_lt.1 h1)
                go_wp2_with fail
                go_quiet (fail)
                clear ct cz co co0 cv
                go_wp2_with fail
                go_roundw
                case rel =>
                  obtain ⟨hMM, hMa, hfin, hdw, hwb, hwx, hxj, hlt, ht, htz, hhead⟩ := HX5.out
                  refine ⟨a + 1, M1 ++ [(e : Int)], M3, ws, by rw [hMM]; simp, by rw [List.length_append, hMa]; rfl, by go_num, ?_, hdw.mod ((Mod.refl no wr).drewN nq) (fun c => c) (fun c => c) (fun _ c => c) (fun _ _ c => c) (fun _ _ c => c), hwb, fun x hx => hwx x (List.mem_cons_of_mem _ hx)⟩
                  rw [← hfin]
                  exact (wit_no (fun hh => Int.lt_irrefl _ (Int.lt_of_lt_of_le hh.1 (le_of_hid H1)))).symm
                case measure =>
                  have := HX5.out.2.2.2.2.2.2.2.1
                  try rw [w2]
                  clear w2 w4
                  show i - ((a : Int) + 1).toNat < i - ((a : Int)).toNat
                  omega
            · have hM2 : M2 = [] := by
                cases M2 with
                | nil => rfl
                | cons x t => exfalso; have := HML.out; rw [hMM] at this; simp at this; omega
              subst hM2
              have hws : ws = planW tm M l h d k m y v := hfin
              rw [hws] at hdw
              obtain rfl : a = i := by have := HML.out; rw [hMM, List.append_nil] at this; omega
              have HO := Lib.hid hdw
              have HALL := Lib.hid HX.out.2.2.2
              have g5 : ¬ (a : Int) < (a : Int) := by omega
              by_cases hz : 0 < a
              · have HQ0 := Lib.hid (show w.heap.size ≤ go from by have := HQ.out; have := this.2.1 hz; omega)
                clear hMM hMa hfin hdw hwb hwx hlt hws
                go_wp2_with fail
                go_ret2
                exact ⟨HO.out.m, .inr (.inr (.inr ⟨HNN.out, hr, HALL.out, go, A1, c1, M, HQ0.out, rfl, HSD.out, HO.out.ko⟩))⟩
              · have HZ0 := Lib.hid hz
                clear hMM hMa hfin hdw hwb hwx hlt hws
                go_wp2_with fail
                go_ret2
                exact ⟨HO.out.m, .inr (.inr (.inr ⟨HNN.out, hr, HALL.out, w.heap.size, A1, c1, M, Nat.le_refl _, rfl, HSD.out, fun h0 => absurd h0 HZ0.out⟩))⟩
end Go.Proofs.Ytoncjoelkenjnaa.PL
