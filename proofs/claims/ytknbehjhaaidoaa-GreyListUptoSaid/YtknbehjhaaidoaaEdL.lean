/- The law's moves: the calls that answer an entry (printed by greymoves2.py). -/
import Derived.Test.YtknbehjhaaidoaaEdK
import Derived.StillTailTactics
import Derived.Deep.RegionWith
namespace Go.Proofs.Ytknbehjhaaidoaa.DG
open Go.RowKit Mem DQ
set_option linter.unusedVariables false
set_option linter.unusedSimpArgs false

/-- The walk's memory: the call's argument at n, two variables behind it, the two lists. -/
structure Ar (w0 w : World) (live : Bool) (lg g gr r : Nat) (A : Option Addr) (Lp Lr : List (List Value)) (m xa xb : List Value) : Prop where
  x : Blk w w0.heap.size 41 m.toArray
  a : Blk w (w0.heap.size + 1) 89 xa.toArray
  b : Blk w (w0.heap.size + 2) 89 xb.toArray
  p : PAt w live lg g gr Lp
  rf : RAt w r A Lr
  md : Mod (fun b => pset live g gr b ∨ b = r) w0 w
  ps : ∀ b, pset live g gr b → b < w0.heap.size
  rl : r < w0.heap.size
  ll : live = true → lg < w0.heap.size
  row : 0 < Lr.length → ∀ b o, A = some ⟨b, o, none⟩ → (b < w0.heap.size ∧ ¬ pset live g gr b) ∨ w0.heap.size + 3 ≤ b
section
variable {w0 w w' : World} {lv A A' : Option Addr} {live ok bottom : Bool} {lg g gr r v : Nat} {L L' Lp Lr : List (List Value)} {S : Nat → Prop} {x m xa xb : List Value}
theorem Ar.start (h : MS w lv live lg g gr r A L) (m : List Value) : Ar w (((w.alloc (.cells m.toArray 41)).alloc (.cells #[.int .u8 0, .int .u8 0, .int .u8 0, .int .u8 0, .int .u8 0, .int .u8 0, .int .u8 0, .int .u8 0, .int .u8 0, .int .u8 0, .int .u8 0, .int .u8 0, .int .u8 0, .int .u8 0, .int .u8 0, .int .u8 0, .int .u8 0, .int .u8 0, .int .u8 0, .int .u8 0, .int .u8 0, .int .u8 0, .int .u8 0, .int .u8 0, .int .u8 0, .int .u8 0, .int .u8 0, .int .u8 0, .int .u8 0, .int .u8 0, .int .u8 0, .int .u8 0, .int .i64 0] 89)).alloc (.cells #[.int .u8 0, .int .u8 0, .int .u8 0, .int .u8 0, .int .u8 0, .int .u8 0, .int .u8 0, .int .u8 0, .int .u8 0, .int .u8 0, .int .u8 0, .int .u8 0, .int .u8 0, .int .u8 0, .int .u8 0, .int .u8 0, .int .u8 0, .int .u8 0, .int .u8 0, .int .u8 0, .int .u8 0, .int .u8 0, .int .u8 0, .int .u8 0, .int .u8 0, .int .u8 0, .int .u8 0, .int .u8 0, .int .u8 0, .int .u8 0, .int .u8 0, .int .u8 0, .int .i64 0] 89)) live lg g gr r A L L m zl zl := by
  have m1 : Mod no w (((w.alloc (.cells m.toArray 41)).alloc (.cells #[.int .u8 0, .int .u8 0, .int .u8 0, .int .u8 0, .int .u8 0, .int .u8 0, .int .u8 0, .int .u8 0, .int .u8 0, .int .u8 0, .int .u8 0, .int .u8 0, .int .u8 0, .int .u8 0, .int .u8 0, .int .u8 0, .int .u8 0, .int .u8 0, .int .u8 0, .int .u8 0, .int .u8 0, .int .u8 0, .int .u8 0, .int .u8 0, .int .u8 0, .int .u8 0, .int .u8 0, .int .u8 0, .int .u8 0, .int .u8 0, .int .u8 0, .int .u8 0, .int .i64 0] 89)).alloc (.cells #[.int .u8 0, .int .u8 0, .int .u8 0, .int .u8 0, .int .u8 0, .int .u8 0, .int .u8 0, .int .u8 0, .int .u8 0, .int .u8 0, .int .u8 0, .int .u8 0, .int .u8 0, .int .u8 0, .int .u8 0, .int .u8 0, .int .u8 0, .int .u8 0, .int .u8 0, .int .u8 0, .int .u8 0, .int .u8 0, .int .u8 0, .int .u8 0, .int .u8 0, .int .u8 0, .int .u8 0, .int .u8 0, .int .u8 0, .int .u8 0, .int .u8 0, .int .u8 0, .int .i64 0] 89)) := (((Mod.refl no w).alloc _).alloc _).alloc _
  have h1 := h.mod_no m1
  have b2 := (Blk.new (w.alloc (.cells m.toArray 41)) 89 zl.toArray).alloc (.cells #[.int .u8 0, .int .u8 0, .int .u8 0, .int .u8 0, .int .u8 0, .int .u8 0, .int .u8 0, .int .u8 0, .int .u8 0, .int .u8 0, .int .u8 0, .int .u8 0, .int .u8 0, .int .u8 0, .int .u8 0, .int .u8 0, .int .u8 0, .int .u8 0, .int .u8 0, .int .u8 0, .int .u8 0, .int .u8 0, .int .u8 0, .int .u8 0, .int .u8 0, .int .u8 0, .int .u8 0, .int .u8 0, .int .u8 0, .int .u8 0, .int .u8 0, .int .u8 0, .int .i64 0] 89)
  rw [show (w.alloc (.cells m.toArray 41)).heap.size = w.heap.size + 1 from by simp] at b2
  have b3 := Blk.new ((w.alloc (.cells m.toArray 41)).alloc (.cells #[.int .u8 0, .int .u8 0, .int .u8 0, .int .u8 0, .int .u8 0, .int .u8 0, .int .u8 0, .int .u8 0, .int .u8 0, .int .u8 0, .int .u8 0, .int .u8 0, .int .u8 0, .int .u8 0, .int .u8 0, .int .u8 0, .int .u8 0, .int .u8 0, .int .u8 0, .int .u8 0, .int .u8 0, .int .u8 0, .int .u8 0, .int .u8 0, .int .u8 0, .int .u8 0, .int .u8 0, .int .u8 0, .int .u8 0, .int .u8 0, .int .u8 0, .int .u8 0, .int .i64 0] 89)) 89 zl.toArray
  rw [show ((w.alloc (.cells m.toArray 41)).alloc (.cells #[.int .u8 0, .int .u8 0, .int .u8 0, .int .u8 0, .int .u8 0, .int .u8 0, .int .u8 0, .int .u8 0, .int .u8 0, .int .u8 0, .int .u8 0, .int .u8 0, .int .u8 0, .int .u8 0, .int .u8 0, .int .u8 0, .int .u8 0, .int .u8 0, .int .u8 0, .int .u8 0, .int .u8 0, .int .u8 0, .int .u8 0, .int .u8 0, .int .u8 0, .int .u8 0, .int .u8 0, .int .u8 0, .int .u8 0, .int .u8 0, .int .u8 0, .int .u8 0, .int .i64 0] 89)).heap.size = w.heap.size + 2 from by simp] at b3
  exact ⟨((Blk.new w 41 m.toArray).alloc _).alloc _, b2, b3, h1.p, h1.r, m1.mono (fun _ _ c => c.elim), fun b c => h.p.lt c, h.r.lt, fun e => h.p.lg_lt e, fun hl b o e => .inl ⟨h.r.row_lt hl e, h.s hl b o e⟩⟩
theorem Ar.size (h : Ar w0 w live lg g gr r A Lp Lr m xa xb) : w0.heap.size + 3 ≤ w.heap.size := h.b.lt
theorem Ar.r_far (h : Ar w0 w live lg g gr r A Lp Lr m xa xb) : ¬ pset live g gr r := by
  obtain ⟨c, hb, _⟩ := h.rf.at_
  exact h.p.far hb (by decide) (by decide)
theorem Ar.lg_ne (h : Ar w0 w live lg g gr r A Lp Lr m xa xb) (e : live = true) : lg ≠ r ∧ g ≠ r ∧ gr ≠ r := by
  obtain ⟨c, hb, _⟩ := h.rf.at_
  refine ⟨fun c => ?_, fun c => h.r_far ⟨e, .inl c.symm⟩, fun c => h.r_far ⟨e, .inr c.symm⟩⟩
  have hl := h.p.l e
  rw [c] at hl
  exact absurd (hl.same hb).1 (by decide)
theorem Ar.p_call (h : Ar w0 w live lg g gr r A Lp Lr m xa xb) (hp : PAt w' live lg g gr L') (hm : Mod (pset live g gr) w w') : Ar w0 w' live lg g gr r A L' Lr m xa xb := by
  have hn : ∀ b, w0.heap.size ≤ b → ¬ pset live g gr b := fun b hb c => by have := h.ps b c; omega
  refine ⟨h.x.mod hm (hn _ (by omega)), h.a.mod hm (hn _ (by omega)), h.b.mod hm (hn _ (by omega)), hp, h.rf.put hm h.r_far (fun hl b o e => ?_), h.md.and_then (hm.mono (fun _ _ c => .inl c)), h.ps, h.rl, h.ll, h.row⟩
  rcases h.row hl b o e with c | c
  · exact c.2
  · exact hn _ (by omega)
theorem Ar.r_call (h : Ar w0 w live lg g gr r A Lp Lr m xa xb) (hr : RAt w' r A' L') (hn : ∀ b o, A' = some ⟨b, o, none⟩ → L' = [] ∨ w.heap.size ≤ b) (hm : Mod (one r) w w') : Ar w0 w' live lg g gr r A' Lp L' m xa xb := by
  have hf : ∀ b, w0.heap.size ≤ b → ¬ one r b := fun b hb c => by have c : b = r := c; have := h.rl; omega
  refine ⟨h.x.mod hm (hf _ (by omega)), h.a.mod hm (hf _ (by omega)), h.b.mod hm (hf _ (by omega)), h.p.mod hm (fun e => h.lg_ne e), hr, h.md.and_then (hm.mono (fun _ _ c => .inr c)), h.ps, h.rl, h.ll, fun hl b o e => ?_⟩
  rcases hn b o e with c | c
  · rw [c] at hl; exact absurd hl (by simp)
  · have := h.size; exact .inr (by omega)
theorem Ar.mod_no (h : Ar w0 w live lg g gr r A Lp Lr m xa xb) (hm : Mod no w w') : Ar w0 w' live lg g gr r A Lp Lr m xa xb := h.p_call (h.p.mod_no hm) (hm.mono (fun _ _ c => c.elim))
theorem Ar.put (h : Ar w0 w live lg g gr r A Lp Lr m xa xb) {v : Nat} (hv : w0.heap.size ≤ v) (hv3 : v < w0.heap.size + 3) (hm : Mod (one v) w w') (hx : Blk w' w0.heap.size 41 m.toArray) {xa' xb' : List Value} (ha : Blk w' (w0.heap.size + 1) 89 xa'.toArray) (hb : Blk w' (w0.heap.size + 2) 89 xb'.toArray) : Ar w0 w' live lg g gr r A Lp Lr m xa' xb' := by
  refine ⟨hx, ha, hb, h.p.mod hm (fun e => ⟨fun c => ?_, fun c => ?_, fun c => ?_⟩), h.rf.put hm (fun c => ?_) (fun hl b o e c => ?_), h.md.trans hm (fun b hb c => ?_), h.ps, h.rl, h.ll, h.row⟩
  · have c : lg = v := c; have := h.ll e; omega
  · have c : g = v := c; have := h.ps g ⟨e, .inl rfl⟩; omega
  · have c : gr = v := c; have := h.ps gr ⟨e, .inr rfl⟩; omega
  · have c : r = v := c; have := h.rl; omega
  · have c : b = v := c
    rcases h.row hl b o e with d | d <;> omega
  · have c : b = v := c; omega
theorem Ar.put_a (h : Ar w0 w live lg g gr r A Lp Lr m xa xb) (hc : xa.length = 33) (hx : Ele x) : w.there (w0.heap.size + 1) 0 x.toArray.size ∧ Ar w0 (w.setCells (w0.heap.size + 1) 0 x) live lg g gr r A Lp Lr m x xb := by
  obtain ⟨h1, h2⟩ := var_set h.a (by rw [List.size_toArray]; exact hc) hx
  refine ⟨by rw [ele_size hx]; exact var_there h.a (by rw [List.size_toArray]; exact hc), h.put (by omega) (by omega) h2 (h.x.mod h2 (fun c => ?_)) h1 (h.b.mod h2 (fun c => ?_))⟩
  · have c : w0.heap.size = w0.heap.size + 1 := c; omega
  · have c : w0.heap.size + 2 = w0.heap.size + 1 := c; omega
theorem Ar.put_b (h : Ar w0 w live lg g gr r A Lp Lr m xa xb) (hc : xb.length = 33) (hx : Ele x) : w.there (w0.heap.size + 2) 0 x.toArray.size ∧ Ar w0 (w.setCells (w0.heap.size + 2) 0 x) live lg g gr r A Lp Lr m xa x := by
  obtain ⟨h1, h2⟩ := var_set h.b (by rw [List.size_toArray]; exact hc) hx
  refine ⟨by rw [ele_size hx]; exact var_there h.b (by rw [List.size_toArray]; exact hc), h.put (by omega) (by omega) h2 (h.x.mod h2 (fun c => ?_)) (h.a.mod h2 (fun c => ?_)) h1⟩
  · have c : w0.heap.size = w0.heap.size + 2 := c; omega
  · have c : w0.heap.size + 1 = w0.heap.size + 2 := c; omega
theorem Ar.fin (h : Ar w0 w live lg g gr r A L' L' m xa xb) (he : lv = lvP live lg) (hk : ∀ x ∈ L', KE x) (hl : L'.length ≤ L.length + 1) : MPost w0 w lv live lg g gr r L := by
  refine ⟨gr, A, L', ⟨he, h.p, h.rf, hk, fun hl b o e => ?_⟩, hl, .inl rfl, h.md⟩
  rcases h.row hl b o e with c | c
  · exact c.2
  · intro c'; have := h.ps b c'; omega
end

set_option maxRecDepth 100000 in
set_option maxHeartbeats 4000000 in
theorem mv_bump {w : World} {lv A : Option Addr} {live bt : Bool} {lg g gr r : Nat} {L : List (List Value)} {bs : List UInt8} (h : MS w lv live lg g gr r A L) (hL : L.length ≤ 1048400) (hbs : bs.length = 32) :
    Calls Try.prog 16 #[.pointer lv, .pointer (some ⟨r, 0, none⟩), .agg (mv 3 (!live) bt (kOf bs)).toArray] w fun e w' => e = .returned (.bool true) ∧ MPost w w' lv live lg g gr r L := by
  obtain ⟨nn, hnn⟩ : ∃ nn, nn = !live := ⟨_, rfl⟩
  rw [← hnn]
  obtain ⟨m, hm⟩ : ∃ m, m = mv 3 nn bt (kOf bs) := ⟨_, rfl⟩
  rw [← hm]
  have ha := Ar.start h m
  have c0 : (((w.alloc (.cells m.toArray 41)).alloc (.cells #[.int .u8 0, .int .u8 0, .int .u8 0, .int .u8 0, .int .u8 0, .int .u8 0, .int .u8 0, .int .u8 0, .int .u8 0, .int .u8 0, .int .u8 0, .int .u8 0, .int .u8 0, .int .u8 0, .int .u8 0, .int .u8 0, .int .u8 0, .int .u8 0, .int .u8 0, .int .u8 0, .int .u8 0, .int .u8 0, .int .u8 0, .int .u8 0, .int .u8 0, .int .u8 0, .int .u8 0, .int .u8 0, .int .u8 0, .int .u8 0, .int .u8 0, .int .u8 0, .int .i64 0] 89)).alloc (.cells #[.int .u8 0, .int .u8 0, .int .u8 0, .int .u8 0, .int .u8 0, .int .u8 0, .int .u8 0, .int .u8 0, .int .u8 0, .int .u8 0, .int .u8 0, .int .u8 0, .int .u8 0, .int .u8 0, .int .u8 0, .int .u8 0, .int .u8 0, .int .u8 0, .int .u8 0, .int .u8 0, .int .u8 0, .int .u8 0, .int .u8 0, .int .u8 0, .int .u8 0, .int .u8 0, .int .u8 0, .int .u8 0, .int .u8 0, .int .u8 0, .int .u8 0, .int .u8 0, .int .i64 0] 89)).cell? ⟨w.heap.size, 0, none⟩ = some (.int .i64 3) := by rw [ha.x.cell, hm]; rfl
  have HA := Lib.hid ha
  have HH := Lib.hid (And.intro h (And.intro hL (And.intro hbs (And.intro hm hnn))))
  clear ha h hL hbs hm hnn
  go_enter Try.func16, Try.ntmps16
  show Code.wp Try.prog (Code.seq (sL movC) (Code.seq (sL m1C) (Code.seq (sL m2C) (Code.seq (sL m3C) m4C)))) _ _ _
  refine wp_seq_k fun K0 hK0 => ?_
  have HK0 := Lib.hid hK0
  clear hK0
  conv => arg 2; whnf
  go_wp2_with fail
  refine HK0.out _ _ ?_
  clear HK0
  refine wp_seq_k fun K0 hK0 => ?_
  have HK0 := Lib.hid hK0
  clear hK0
  conv => arg 2; whnf
  go_wp2_with fail
  refine HK0.out _ _ ?_
  clear HK0
  refine wp_seq_k fun K0 hK0 => ?_
  have HK0 := Lib.hid hK0
  clear hK0
  conv => arg 2; whnf
  go_wp2_with fail
  refine HK0.out _ _ ?_
  clear HK0
  generalize (((w.alloc (.cells m.toArray 41)).alloc (.cells #[.int .u8 0, .int .u8 0, .int .u8 0, .int .u8 0, .int .u8 0, .int .u8 0, .int .u8 0, .int .u8 0, .int .u8 0, .int .u8 0, .int .u8 0, .int .u8 0, .int .u8 0, .int .u8 0, .int .u8 0, .int .u8 0, .int .u8 0, .int .u8 0, .int .u8 0, .int .u8 0, .int .u8 0, .int .u8 0, .int .u8 0, .int .u8 0, .int .u8 0, .int .u8 0, .int .u8 0, .int .u8 0, .int .u8 0, .int .u8 0, .int .u8 0, .int .u8 0, .int .i64 0] 89)).alloc (.cells #[.int .u8 0, .int .u8 0, .int .u8 0, .int .u8 0, .int .u8 0, .int .u8 0, .int .u8 0, .int .u8 0, .int .u8 0, .int .u8 0, .int .u8 0, .int .u8 0, .int .u8 0, .int .u8 0, .int .u8 0, .int .u8 0, .int .u8 0, .int .u8 0, .int .u8 0, .int .u8 0, .int .u8 0, .int .u8 0, .int .u8 0, .int .u8 0, .int .u8 0, .int .u8 0, .int .u8 0, .int .u8 0, .int .u8 0, .int .u8 0, .int .u8 0, .int .u8 0, .int .i64 0] 89)) = w1 at *
  have hs1 := HA.out.size
  have c2 : w1.cell? ⟨w.heap.size, 2, none⟩ = some (.bool bt) := by rw [HA.out.x.cell, HH.out.2.2.2.1]; rfl
  refine wp_seq_k fun K0 hK0 => ?_
  have HK0 := Lib.hid hK0
  clear hK0
  conv => arg 2; whnf
  obtain ⟨L', x, ok, hR, hlen⟩ := bumpR_ex (bottom := bt) HH.out.1.k
  have hke := hR.ke HH.out.1.k
  have HR := Lib.hid (And.intro hR (And.intro hke hlen))
  have HPC := Lib.hid (show Calls _ _ #[.pointer lv, .bool bt] _ _ from HH.out.1.e ▸ bump_l (bottom := bt) HA.out.p HR.out.1)
  clear hR hke hlen
  go_wp2_with fail
  refine HPC.out.mono ?_
  rintro e w2 ⟨rfl, hp2, m2⟩
  have HA2 := Lib.hid (HA.out.p_call hp2 m2)
  clear HPC HA hp2 m2 c0 c2
  have c2 : w2.cell? ⟨w.heap.size, 2, none⟩ = some (.bool bt) := by rw [HA2.out.x.cell, HH.out.2.2.2.1]; rfl
  go_wp2_with (first
    | (refine wpList_store_mid rfl 89 (.tmp 7) (.tmp 54) rfl (w.heap.size + 1) 0 x.toArray rfl rfl (HA2.out.put_a rfl HR.out.2.1.1.ele).1 (ele_info HR.out.2.1.1.ele) (ele_one HR.out.2.1.1.ele) ?_
       simp only [List.toList_toArray]
       have HA3 := Lib.hid (HA2.out.put_a rfl HR.out.2.1.1.ele).2
       generalize w2.setCells (w.heap.size + 1) 0 x = w3 at *
       try clear c2
       have c2 : w3.cell? ⟨w.heap.size, 2, none⟩ = some (.bool bt) := by rw [HA3.out.x.cell, HH.out.2.2.2.1]; rfl))
  refine (rbump_l (bottom := bt) HA3.out.rf (by have := HH.out.2.1; omega) HR.out.1).mono ?_
  rintro e w4 ⟨rfl, ⟨A', hA', hn'⟩, m4⟩
  have HA4 := Lib.hid (HA3.out.r_call hA' hn' m4)
  clear hA' hn' m4 c2
  go_wp2_with (first
    | (refine wpList_store_mid rfl 89 (.tmp 8) (.tmp 61) rfl (w.heap.size + 2) 0 x.toArray rfl rfl (HA4.out.put_b rfl HR.out.2.1.1.ele).1 (ele_info HR.out.2.1.1.ele) (ele_one HR.out.2.1.1.ele) ?_
       simp only [List.toList_toArray]
       have HA5 := Lib.hid (HA4.out.put_b rfl HR.out.2.1.1.ele).2
       generalize w4.setCells (w.heap.size + 2) 0 x = w5 at *
       try clear c2
       have c2 : w5.cell? ⟨w.heap.size, 2, none⟩ = some (.bool bt) := by rw [HA5.out.x.cell, HH.out.2.2.2.1]; rfl))
  refine HK0.out _ _ ?_
  clear HK0
  refine mtail HA5.out.a HA5.out.b HR.out.2.1.1 _ _ _ _ _ _ _ _ _ _ _ _ _ _ _ _ _ _ _ _ _ _ _ _ _ _ _ _ _ _ _ _ _ _ _ _ _ _ _ _ _ _ _ _ _ _ _ _ _ _ _ _ _ _ _ _ _ _ _ _ _ _ _ _ _ _ _ _ _ _ _ _ _ _ _ _ _ _ _ _ _ _ _ _ _ _ _ _ _ _ _ _ _ _ _ _ _ _ _ ?_
  intro u6 u94 u95 u96 u97 u98 u99 u100 u101 h6
  subst h6
  go_ret
  exact ⟨rfl, HA5.out.fin HH.out.1.e HR.out.2.1.2 (by have := HR.out; have := this.2.2; omega)⟩

set_option maxRecDepth 100000 in
set_option maxHeartbeats 4000000 in
theorem mv_pop {w : World} {lv A : Option Addr} {live bt : Bool} {lg g gr r : Nat} {L : List (List Value)} {bs : List UInt8} (h : MS w lv live lg g gr r A L) (hL : L.length ≤ 1048400) (hbs : bs.length = 32) :
    Calls Try.prog 16 #[.pointer lv, .pointer (some ⟨r, 0, none⟩), .agg (mv 4 (!live) bt (kOf bs)).toArray] w fun e w' => e = .returned (.bool true) ∧ MPost w w' lv live lg g gr r L := by
  obtain ⟨nn, hnn⟩ : ∃ nn, nn = !live := ⟨_, rfl⟩
  rw [← hnn]
  obtain ⟨m, hm⟩ : ∃ m, m = mv 4 nn bt (kOf bs) := ⟨_, rfl⟩
  rw [← hm]
  have ha := Ar.start h m
  have c0 : (((w.alloc (.cells m.toArray 41)).alloc (.cells #[.int .u8 0, .int .u8 0, .int .u8 0, .int .u8 0, .int .u8 0, .int .u8 0, .int .u8 0, .int .u8 0, .int .u8 0, .int .u8 0, .int .u8 0, .int .u8 0, .int .u8 0, .int .u8 0, .int .u8 0, .int .u8 0, .int .u8 0, .int .u8 0, .int .u8 0, .int .u8 0, .int .u8 0, .int .u8 0, .int .u8 0, .int .u8 0, .int .u8 0, .int .u8 0, .int .u8 0, .int .u8 0, .int .u8 0, .int .u8 0, .int .u8 0, .int .u8 0, .int .i64 0] 89)).alloc (.cells #[.int .u8 0, .int .u8 0, .int .u8 0, .int .u8 0, .int .u8 0, .int .u8 0, .int .u8 0, .int .u8 0, .int .u8 0, .int .u8 0, .int .u8 0, .int .u8 0, .int .u8 0, .int .u8 0, .int .u8 0, .int .u8 0, .int .u8 0, .int .u8 0, .int .u8 0, .int .u8 0, .int .u8 0, .int .u8 0, .int .u8 0, .int .u8 0, .int .u8 0, .int .u8 0, .int .u8 0, .int .u8 0, .int .u8 0, .int .u8 0, .int .u8 0, .int .u8 0, .int .i64 0] 89)).cell? ⟨w.heap.size, 0, none⟩ = some (.int .i64 4) := by rw [ha.x.cell, hm]; rfl
  have HA := Lib.hid ha
  have HH := Lib.hid (And.intro h (And.intro hL (And.intro hbs (And.intro hm hnn))))
  clear ha h hL hbs hm hnn
  go_enter Try.func16, Try.ntmps16
  show Code.wp Try.prog (Code.seq (sL movC) (Code.seq (sL m1C) (Code.seq (sL m2C) (Code.seq (sL m3C) m4C)))) _ _ _
  refine wp_seq_k fun K0 hK0 => ?_
  have HK0 := Lib.hid hK0
  clear hK0
  conv => arg 2; whnf
  go_wp2_with fail
  refine HK0.out _ _ ?_
  clear HK0
  refine wp_seq_k fun K0 hK0 => ?_
  have HK0 := Lib.hid hK0
  clear hK0
  conv => arg 2; whnf
  go_wp2_with fail
  refine HK0.out _ _ ?_
  clear HK0
  refine wp_seq_k fun K0 hK0 => ?_
  have HK0 := Lib.hid hK0
  clear hK0
  conv => arg 2; whnf
  go_wp2_with fail
  refine HK0.out _ _ ?_
  clear HK0
  generalize (((w.alloc (.cells m.toArray 41)).alloc (.cells #[.int .u8 0, .int .u8 0, .int .u8 0, .int .u8 0, .int .u8 0, .int .u8 0, .int .u8 0, .int .u8 0, .int .u8 0, .int .u8 0, .int .u8 0, .int .u8 0, .int .u8 0, .int .u8 0, .int .u8 0, .int .u8 0, .int .u8 0, .int .u8 0, .int .u8 0, .int .u8 0, .int .u8 0, .int .u8 0, .int .u8 0, .int .u8 0, .int .u8 0, .int .u8 0, .int .u8 0, .int .u8 0, .int .u8 0, .int .u8 0, .int .u8 0, .int .u8 0, .int .i64 0] 89)).alloc (.cells #[.int .u8 0, .int .u8 0, .int .u8 0, .int .u8 0, .int .u8 0, .int .u8 0, .int .u8 0, .int .u8 0, .int .u8 0, .int .u8 0, .int .u8 0, .int .u8 0, .int .u8 0, .int .u8 0, .int .u8 0, .int .u8 0, .int .u8 0, .int .u8 0, .int .u8 0, .int .u8 0, .int .u8 0, .int .u8 0, .int .u8 0, .int .u8 0, .int .u8 0, .int .u8 0, .int .u8 0, .int .u8 0, .int .u8 0, .int .u8 0, .int .u8 0, .int .u8 0, .int .i64 0] 89)) = w1 at *
  have hs1 := HA.out.size
  have c2 : w1.cell? ⟨w.heap.size, 2, none⟩ = some (.bool bt) := by rw [HA.out.x.cell, HH.out.2.2.2.1]; rfl
  refine wp_seq_k fun K0 hK0 => ?_
  have HK0 := Lib.hid hK0
  clear hK0
  conv => arg 2; whnf
  obtain ⟨L', x, ok, hR⟩ := popR_ex bt L
  have hke := hR.ke HH.out.1.k
  have HR := Lib.hid (And.intro hR (And.intro hke trivial))
  have HPC := Lib.hid (show Calls _ _ #[.pointer lv, .bool bt] _ _ from HH.out.1.e ▸ pop_l (bottom := bt) HA.out.p HR.out.1)
  clear hR hke
  go_wp2_with fail
  refine HPC.out.mono ?_
  rintro e w2 ⟨rfl, hp2, m2⟩
  have HA2 := Lib.hid (HA.out.p_call hp2 m2)
  clear HPC HA hp2 m2 c0 c2
  have c2 : w2.cell? ⟨w.heap.size, 2, none⟩ = some (.bool bt) := by rw [HA2.out.x.cell, HH.out.2.2.2.1]; rfl
  go_wp2_with (first
    | (refine wpList_store_mid rfl 89 (.tmp 7) (.tmp 70) rfl (w.heap.size + 1) 0 x.toArray rfl rfl (HA2.out.put_a rfl HR.out.2.1.1.ele).1 (ele_info HR.out.2.1.1.ele) (ele_one HR.out.2.1.1.ele) ?_
       simp only [List.toList_toArray]
       have HA3 := Lib.hid (HA2.out.put_a rfl HR.out.2.1.1.ele).2
       generalize w2.setCells (w.heap.size + 1) 0 x = w3 at *
       try clear c2
       have c2 : w3.cell? ⟨w.heap.size, 2, none⟩ = some (.bool bt) := by rw [HA3.out.x.cell, HH.out.2.2.2.1]; rfl))
  refine (rpop_l (bottom := bt) HA3.out.rf (by have := HH.out.2.1; omega) HR.out.1).mono ?_
  rintro e w4 ⟨rfl, ⟨A', hA', hn'⟩, m4⟩
  have HA4 := Lib.hid (HA3.out.r_call hA' hn' m4)
  clear hA' hn' m4 c2
  go_wp2_with (first
    | (refine wpList_store_mid rfl 89 (.tmp 8) (.tmp 77) rfl (w.heap.size + 2) 0 x.toArray rfl rfl (HA4.out.put_b rfl HR.out.2.1.1.ele).1 (ele_info HR.out.2.1.1.ele) (ele_one HR.out.2.1.1.ele) ?_
       simp only [List.toList_toArray]
       have HA5 := Lib.hid (HA4.out.put_b rfl HR.out.2.1.1.ele).2
       generalize w4.setCells (w.heap.size + 2) 0 x = w5 at *
       try clear c2
       have c2 : w5.cell? ⟨w.heap.size, 2, none⟩ = some (.bool bt) := by rw [HA5.out.x.cell, HH.out.2.2.2.1]; rfl))
  refine HK0.out _ _ ?_
  clear HK0
  refine mtail HA5.out.a HA5.out.b HR.out.2.1.1 _ _ _ _ _ _ _ _ _ _ _ _ _ _ _ _ _ _ _ _ _ _ _ _ _ _ _ _ _ _ _ _ _ _ _ _ _ _ _ _ _ _ _ _ _ _ _ _ _ _ _ _ _ _ _ _ _ _ _ _ _ _ _ _ _ _ _ _ _ _ _ _ _ _ _ _ _ _ _ _ _ _ _ _ _ _ _ _ _ _ _ _ _ _ _ _ _ _ _ ?_
  intro u6 u94 u95 u96 u97 u98 u99 u100 u101 h6
  subst h6
  go_ret
  exact ⟨rfl, HA5.out.fin HH.out.1.e HR.out.2.1.2.1 (by have := HR.out; have := this.2.1.2.2; omega)⟩

set_option maxRecDepth 100000 in
set_option maxHeartbeats 4000000 in
theorem mv_at_false {w : World} {lv A : Option Addr} {live : Bool} {lg g gr r : Nat} {L : List (List Value)} {bs : List UInt8} (h : MS w lv live lg g gr r A L) (hL : L.length ≤ 1048400) (hbs : bs.length = 32) :
    Calls Try.prog 16 #[.pointer lv, .pointer (some ⟨r, 0, none⟩), .agg (mv 2 (!live) false (kOf bs)).toArray] w fun e w' => e = .returned (.bool true) ∧ MPost w w' lv live lg g gr r L := by
  obtain ⟨nn, hnn⟩ : ∃ nn, nn = !live := ⟨_, rfl⟩
  rw [← hnn]
  obtain ⟨m, hm⟩ : ∃ m, m = mv 2 nn false (kOf bs) := ⟨_, rfl⟩
  rw [← hm]
  have ha := Ar.start h m
  have c0 : (((w.alloc (.cells m.toArray 41)).alloc (.cells #[.int .u8 0, .int .u8 0, .int .u8 0, .int .u8 0, .int .u8 0, .int .u8 0, .int .u8 0, .int .u8 0, .int .u8 0, .int .u8 0, .int .u8 0, .int .u8 0, .int .u8 0, .int .u8 0, .int .u8 0, .int .u8 0, .int .u8 0, .int .u8 0, .int .u8 0, .int .u8 0, .int .u8 0, .int .u8 0, .int .u8 0, .int .u8 0, .int .u8 0, .int .u8 0, .int .u8 0, .int .u8 0, .int .u8 0, .int .u8 0, .int .u8 0, .int .u8 0, .int .i64 0] 89)).alloc (.cells #[.int .u8 0, .int .u8 0, .int .u8 0, .int .u8 0, .int .u8 0, .int .u8 0, .int .u8 0, .int .u8 0, .int .u8 0, .int .u8 0, .int .u8 0, .int .u8 0, .int .u8 0, .int .u8 0, .int .u8 0, .int .u8 0, .int .u8 0, .int .u8 0, .int .u8 0, .int .u8 0, .int .u8 0, .int .u8 0, .int .u8 0, .int .u8 0, .int .u8 0, .int .u8 0, .int .u8 0, .int .u8 0, .int .u8 0, .int .u8 0, .int .u8 0, .int .u8 0, .int .i64 0] 89)).cell? ⟨w.heap.size, 0, none⟩ = some (.int .i64 2) := by rw [ha.x.cell, hm]; rfl
  have HA := Lib.hid ha
  have HH := Lib.hid (And.intro h (And.intro hL (And.intro hbs (And.intro hm hnn))))
  clear ha h hL hbs hm hnn
  go_enter Try.func16, Try.ntmps16
  show Code.wp Try.prog (Code.seq (sL movC) (Code.seq (sL m1C) (Code.seq (sL m2C) (Code.seq (sL m3C) m4C)))) _ _ _
  refine wp_seq_k fun K0 hK0 => ?_
  have HK0 := Lib.hid hK0
  clear hK0
  conv => arg 2; whnf
  go_wp2_with fail
  refine HK0.out _ _ ?_
  clear HK0
  refine wp_seq_k fun K0 hK0 => ?_
  have HK0 := Lib.hid hK0
  clear hK0
  conv => arg 2; whnf
  go_wp2_with fail
  refine HK0.out _ _ ?_
  clear HK0
  refine wp_seq_k fun K0 hK0 => ?_
  have HK0 := Lib.hid hK0
  clear hK0
  conv => arg 2; whnf
  go_wp2_with fail
  refine HK0.out _ _ ?_
  clear HK0
  generalize (((w.alloc (.cells m.toArray 41)).alloc (.cells #[.int .u8 0, .int .u8 0, .int .u8 0, .int .u8 0, .int .u8 0, .int .u8 0, .int .u8 0, .int .u8 0, .int .u8 0, .int .u8 0, .int .u8 0, .int .u8 0, .int .u8 0, .int .u8 0, .int .u8 0, .int .u8 0, .int .u8 0, .int .u8 0, .int .u8 0, .int .u8 0, .int .u8 0, .int .u8 0, .int .u8 0, .int .u8 0, .int .u8 0, .int .u8 0, .int .u8 0, .int .u8 0, .int .u8 0, .int .u8 0, .int .u8 0, .int .u8 0, .int .i64 0] 89)).alloc (.cells #[.int .u8 0, .int .u8 0, .int .u8 0, .int .u8 0, .int .u8 0, .int .u8 0, .int .u8 0, .int .u8 0, .int .u8 0, .int .u8 0, .int .u8 0, .int .u8 0, .int .u8 0, .int .u8 0, .int .u8 0, .int .u8 0, .int .u8 0, .int .u8 0, .int .u8 0, .int .u8 0, .int .u8 0, .int .u8 0, .int .u8 0, .int .u8 0, .int .u8 0, .int .u8 0, .int .u8 0, .int .u8 0, .int .u8 0, .int .u8 0, .int .u8 0, .int .u8 0, .int .i64 0] 89)) = w1 at *
  have hs1 := HA.out.size
  have c2 : w1.cell? ⟨w.heap.size, 2, none⟩ = some (.bool false) := by rw [HA.out.x.cell, HH.out.2.2.2.1]; rfl
  refine wp_seq_k fun K0 hK0 => ?_
  have HK0 := Lib.hid hK0
  clear hK0
  conv => arg 2; whnf
  obtain ⟨x, ok, hR⟩ := atR_ex false L
  have HR := Lib.hid (And.intro hR (hR.ke HH.out.1.k))
  clear hR
  have HPC := Lib.hid (show Calls _ _ #[.pointer lv] _ _ from HH.out.1.e ▸ top_l HA.out.p HR.out.1)
  go_wp2_with fail
  refine HPC.out.mono ?_
  rintro e w2 ⟨rfl, m2⟩
  have HA2 := Lib.hid (HA.out.mod_no m2)
  clear HPC HA m2 c0 c2
  have c2 : w2.cell? ⟨w.heap.size, 2, none⟩ = some (.bool false) := by rw [HA2.out.x.cell, HH.out.2.2.2.1]; rfl
  go_wp2_with (first
    | (refine wpList_store_mid rfl 89 (.tmp 7) (.tmp 31) rfl (w.heap.size + 1) 0 x.toArray rfl rfl (HA2.out.put_a rfl HR.out.2.ele).1 (ele_info HR.out.2.ele) (ele_one HR.out.2.ele) ?_
       simp only [List.toList_toArray]
       have HA3 := Lib.hid (HA2.out.put_a rfl HR.out.2.ele).2
       generalize w2.setCells (w.heap.size + 1) 0 x = w3 at *
       try clear c2
       have c2 : w3.cell? ⟨w.heap.size, 2, none⟩ = some (.bool false) := by rw [HA3.out.x.cell, HH.out.2.2.2.1]; rfl))
  refine (rat_l (bottom := false) HA3.out.rf (by have := HH.out.2.1; omega) HR.out.1).mono ?_
  rintro e w6 ⟨rfl, m6⟩
  have HA6 := Lib.hid (HA3.out.mod_no m6)
  clear m6 c2
  go_wp2_with (first
    | (refine wpList_store_mid rfl 89 (.tmp 8) (.tmp 45) rfl (w.heap.size + 2) 0 x.toArray rfl rfl (HA6.out.put_b rfl HR.out.2.ele).1 (ele_info HR.out.2.ele) (ele_one HR.out.2.ele) ?_
       simp only [List.toList_toArray]
       have HA7 := Lib.hid (HA6.out.put_b rfl HR.out.2.ele).2
       generalize w6.setCells (w.heap.size + 2) 0 x = w7 at *
       try clear c2
       have c2 : w7.cell? ⟨w.heap.size, 2, none⟩ = some (.bool false) := by rw [HA7.out.x.cell, HH.out.2.2.2.1]; rfl))
  refine HK0.out _ _ ?_
  clear HK0
  refine mtail HA7.out.a HA7.out.b HR.out.2 _ _ _ _ _ _ _ _ _ _ _ _ _ _ _ _ _ _ _ _ _ _ _ _ _ _ _ _ _ _ _ _ _ _ _ _ _ _ _ _ _ _ _ _ _ _ _ _ _ _ _ _ _ _ _ _ _ _ _ _ _ _ _ _ _ _ _ _ _ _ _ _ _ _ _ _ _ _ _ _ _ _ _ _ _ _ _ _ _ _ _ _ _ _ _ _ _ _ _ ?_
  intro u6 u94 u95 u96 u97 u98 u99 u100 u101 h6
  subst h6
  go_ret
  exact ⟨rfl, HA7.out.fin HH.out.1.e HH.out.1.k (by omega)⟩

set_option maxRecDepth 100000 in
set_option maxHeartbeats 4000000 in
theorem mv_at_true {w : World} {lv A : Option Addr} {live : Bool} {lg g gr r : Nat} {L : List (List Value)} {bs : List UInt8} (h : MS w lv live lg g gr r A L) (hL : L.length ≤ 1048400) (hbs : bs.length = 32) :
    Calls Try.prog 16 #[.pointer lv, .pointer (some ⟨r, 0, none⟩), .agg (mv 2 (!live) true (kOf bs)).toArray] w fun e w' => e = .returned (.bool true) ∧ MPost w w' lv live lg g gr r L := by
  obtain ⟨nn, hnn⟩ : ∃ nn, nn = !live := ⟨_, rfl⟩
  rw [← hnn]
  obtain ⟨m, hm⟩ : ∃ m, m = mv 2 nn true (kOf bs) := ⟨_, rfl⟩
  rw [← hm]
  have ha := Ar.start h m
  have c0 : (((w.alloc (.cells m.toArray 41)).alloc (.cells #[.int .u8 0, .int .u8 0, .int .u8 0, .int .u8 0, .int .u8 0, .int .u8 0, .int .u8 0, .int .u8 0, .int .u8 0, .int .u8 0, .int .u8 0, .int .u8 0, .int .u8 0, .int .u8 0, .int .u8 0, .int .u8 0, .int .u8 0, .int .u8 0, .int .u8 0, .int .u8 0, .int .u8 0, .int .u8 0, .int .u8 0, .int .u8 0, .int .u8 0, .int .u8 0, .int .u8 0, .int .u8 0, .int .u8 0, .int .u8 0, .int .u8 0, .int .u8 0, .int .i64 0] 89)).alloc (.cells #[.int .u8 0, .int .u8 0, .int .u8 0, .int .u8 0, .int .u8 0, .int .u8 0, .int .u8 0, .int .u8 0, .int .u8 0, .int .u8 0, .int .u8 0, .int .u8 0, .int .u8 0, .int .u8 0, .int .u8 0, .int .u8 0, .int .u8 0, .int .u8 0, .int .u8 0, .int .u8 0, .int .u8 0, .int .u8 0, .int .u8 0, .int .u8 0, .int .u8 0, .int .u8 0, .int .u8 0, .int .u8 0, .int .u8 0, .int .u8 0, .int .u8 0, .int .u8 0, .int .i64 0] 89)).cell? ⟨w.heap.size, 0, none⟩ = some (.int .i64 2) := by rw [ha.x.cell, hm]; rfl
  have HA := Lib.hid ha
  have HH := Lib.hid (And.intro h (And.intro hL (And.intro hbs (And.intro hm hnn))))
  clear ha h hL hbs hm hnn
  go_enter Try.func16, Try.ntmps16
  show Code.wp Try.prog (Code.seq (sL movC) (Code.seq (sL m1C) (Code.seq (sL m2C) (Code.seq (sL m3C) m4C)))) _ _ _
  refine wp_seq_k fun K0 hK0 => ?_
  have HK0 := Lib.hid hK0
  clear hK0
  conv => arg 2; whnf
  go_wp2_with fail
  refine HK0.out _ _ ?_
  clear HK0
  refine wp_seq_k fun K0 hK0 => ?_
  have HK0 := Lib.hid hK0
  clear hK0
  conv => arg 2; whnf
  go_wp2_with fail
  refine HK0.out _ _ ?_
  clear HK0
  refine wp_seq_k fun K0 hK0 => ?_
  have HK0 := Lib.hid hK0
  clear hK0
  conv => arg 2; whnf
  go_wp2_with fail
  refine HK0.out _ _ ?_
  clear HK0
  generalize (((w.alloc (.cells m.toArray 41)).alloc (.cells #[.int .u8 0, .int .u8 0, .int .u8 0, .int .u8 0, .int .u8 0, .int .u8 0, .int .u8 0, .int .u8 0, .int .u8 0, .int .u8 0, .int .u8 0, .int .u8 0, .int .u8 0, .int .u8 0, .int .u8 0, .int .u8 0, .int .u8 0, .int .u8 0, .int .u8 0, .int .u8 0, .int .u8 0, .int .u8 0, .int .u8 0, .int .u8 0, .int .u8 0, .int .u8 0, .int .u8 0, .int .u8 0, .int .u8 0, .int .u8 0, .int .u8 0, .int .u8 0, .int .i64 0] 89)).alloc (.cells #[.int .u8 0, .int .u8 0, .int .u8 0, .int .u8 0, .int .u8 0, .int .u8 0, .int .u8 0, .int .u8 0, .int .u8 0, .int .u8 0, .int .u8 0, .int .u8 0, .int .u8 0, .int .u8 0, .int .u8 0, .int .u8 0, .int .u8 0, .int .u8 0, .int .u8 0, .int .u8 0, .int .u8 0, .int .u8 0, .int .u8 0, .int .u8 0, .int .u8 0, .int .u8 0, .int .u8 0, .int .u8 0, .int .u8 0, .int .u8 0, .int .u8 0, .int .u8 0, .int .i64 0] 89)) = w1 at *
  have hs1 := HA.out.size
  have c2 : w1.cell? ⟨w.heap.size, 2, none⟩ = some (.bool true) := by rw [HA.out.x.cell, HH.out.2.2.2.1]; rfl
  refine wp_seq_k fun K0 hK0 => ?_
  have HK0 := Lib.hid hK0
  clear hK0
  conv => arg 2; whnf
  obtain ⟨x, ok, hR⟩ := atR_ex true L
  have HR := Lib.hid (And.intro hR (hR.ke HH.out.1.k))
  clear hR
  obtain ⟨x0, ok0, hR0⟩ := atR_ex false L
  have HR0 := Lib.hid (And.intro hR0 (hR0.ke HH.out.1.k))
  clear hR0
  have HPC := Lib.hid (show Calls _ _ #[.pointer lv] _ _ from HH.out.1.e ▸ top_l HA.out.p HR0.out.1)
  go_wp2_with fail
  refine HPC.out.mono ?_
  rintro e w2 ⟨rfl, m2⟩
  have HA2 := Lib.hid (HA.out.mod_no m2)
  clear HPC HA m2 c0 c2
  have c2 : w2.cell? ⟨w.heap.size, 2, none⟩ = some (.bool true) := by rw [HA2.out.x.cell, HH.out.2.2.2.1]; rfl
  go_wp2_with (first
    | (refine wpList_store_mid rfl 89 (.tmp 7) (.tmp 31) rfl (w.heap.size + 1) 0 x0.toArray rfl rfl (HA2.out.put_a rfl HR0.out.2.ele).1 (ele_info HR0.out.2.ele) (ele_one HR0.out.2.ele) ?_
       simp only [List.toList_toArray]
       have HA3 := Lib.hid (HA2.out.put_a rfl HR0.out.2.ele).2
       generalize w2.setCells (w.heap.size + 1) 0 x0 = w3 at *
       try clear c2
       have c2 : w3.cell? ⟨w.heap.size, 2, none⟩ = some (.bool true) := by rw [HA3.out.x.cell, HH.out.2.2.2.1]; rfl))
  refine (show Calls _ _ #[.pointer lv] _ _ from HH.out.1.e ▸ bottom_l HA3.out.p HR.out.1).mono ?_
  rintro e w4 ⟨rfl, m4⟩
  have HA4 := Lib.hid (HA3.out.mod_no m4)
  clear m4 c2
  have c2 : w4.cell? ⟨w.heap.size, 2, none⟩ = some (.bool true) := by rw [HA4.out.x.cell, HH.out.2.2.2.1]; rfl
  go_wp2_with (first
    | (refine wpList_store_mid rfl 89 (.tmp 7) (.tmp 38) rfl (w.heap.size + 1) 0 x.toArray rfl rfl (HA4.out.put_a HR0.out.2.ele.1 HR.out.2.ele).1 (ele_info HR.out.2.ele) (ele_one HR.out.2.ele) ?_
       simp only [List.toList_toArray]
       have HA5 := Lib.hid (HA4.out.put_a HR0.out.2.ele.1 HR.out.2.ele).2
       generalize w4.setCells (w.heap.size + 1) 0 x = w5 at *
       try clear c2
       have c2 : w5.cell? ⟨w.heap.size, 2, none⟩ = some (.bool true) := by rw [HA5.out.x.cell, HH.out.2.2.2.1]; rfl))
  refine (rat_l (bottom := true) HA5.out.rf (by have := HH.out.2.1; omega) HR.out.1).mono ?_
  rintro e w6 ⟨rfl, m6⟩
  have HA6 := Lib.hid (HA5.out.mod_no m6)
  clear m6 c2
  go_wp2_with (first
    | (refine wpList_store_mid rfl 89 (.tmp 8) (.tmp 45) rfl (w.heap.size + 2) 0 x.toArray rfl rfl (HA6.out.put_b rfl HR.out.2.ele).1 (ele_info HR.out.2.ele) (ele_one HR.out.2.ele) ?_
       simp only [List.toList_toArray]
       have HA7 := Lib.hid (HA6.out.put_b rfl HR.out.2.ele).2
       generalize w6.setCells (w.heap.size + 2) 0 x = w7 at *
       try clear c2
       have c2 : w7.cell? ⟨w.heap.size, 2, none⟩ = some (.bool true) := by rw [HA7.out.x.cell, HH.out.2.2.2.1]; rfl))
  refine HK0.out _ _ ?_
  clear HK0
  refine mtail HA7.out.a HA7.out.b HR.out.2 _ _ _ _ _ _ _ _ _ _ _ _ _ _ _ _ _ _ _ _ _ _ _ _ _ _ _ _ _ _ _ _ _ _ _ _ _ _ _ _ _ _ _ _ _ _ _ _ _ _ _ _ _ _ _ _ _ _ _ _ _ _ _ _ _ _ _ _ _ _ _ _ _ _ _ _ _ _ _ _ _ _ _ _ _ _ _ _ _ _ _ _ _ _ _ _ _ _ _ ?_
  intro u6 u94 u95 u96 u97 u98 u99 u100 u101 h6
  subst h6
  go_ret
  exact ⟨rfl, HA7.out.fin HH.out.1.e HH.out.1.k (by omega)⟩

end Go.Proofs.Ytknbehjhaaidoaa.DG
