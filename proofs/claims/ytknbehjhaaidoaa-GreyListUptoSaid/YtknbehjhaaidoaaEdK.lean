/- The law's moves: what holds of the two lists; its last comparison (printed by greymoves.py). -/
import Derived.Test.YtknbehjhaaidoaaEdJ
import Derived.StillTailTactics
import Derived.Deep.RegionWith
namespace Go.Proofs.Ytknbehjhaaidoaa.DG
open Go.RowKit Mem DQ
set_option linter.unusedVariables false
set_option linter.unusedSimpArgs false

theorem RAt.lt {w : World} {r : Nat} {A : Option Addr} {L : List (List Value)} (h : RAt w r A L) : r < w.heap.size := by
  obtain ⟨c, hb, _⟩ := h.at_
  exact hb.lt
theorem RAt.row_lt {w : World} {r b o : Nat} {A : Option Addr} {L : List (List Value)} (h : RAt w r A L) (hl : 0 < L.length) (e : A = some ⟨b, o, none⟩) : b < w.heap.size := by
  obtain ⟨c, _, hs, _⟩ := h.at_
  obtain ⟨b', o', e', hb, _⟩ := hs.at_ hl
  rw [e] at e'
  injection e' with e'
  injection e' with e'
  omega
theorem RAt.put {S : Nat → Prop} {w w' : World} {r : Nat} {A : Option Addr} {L : List (List Value)} (h : RAt w r A L) (hm : Mod S w w') (h1 : ¬ S r) (h2 : 0 < L.length → ∀ b o, A = some ⟨b, o, none⟩ → ¬ S b) : RAt w' r A L := by
  cases L with
  | nil =>
    obtain ⟨c, hb, _, hc⟩ := h.at_
    exact ⟨c, hb.mod hm h1, Src.nil _ _, hc⟩
  | cons x L => exact h.mod hm h1 (h2 (by simp))
/-- The two lists. -/
structure MS (w : World) (lv : Option Addr) (live : Bool) (lg g gr r : Nat) (A : Option Addr) (L : List (List Value)) : Prop where
  e : lv = lvP live lg
  p : PAt w live lg g gr L
  r : RAt w r A L
  k : ∀ x ∈ L, KE x
  s : 0 < L.length → ∀ b o, A = some ⟨b, o, none⟩ → ¬ pset live g gr b
section
variable {w w' : World} {lv A : Option Addr} {live ok bottom : Bool} {lg g gr r v : Nat} {L L' : List (List Value)} {S : Nat → Prop} {x : List Value}
theorem MS.mod (h : MS w lv live lg g gr r A L) (hm : Mod S w w') (h1 : live = true → ¬ S lg ∧ ¬ S g ∧ ¬ S gr) (h2 : ¬ S r) (h3 : 0 < L.length → ∀ b o, A = some ⟨b, o, none⟩ → ¬ S b) : MS w' lv live lg g gr r A L :=
  ⟨h.e, h.p.mod hm h1, h.r.put hm h2 h3, h.k, h.s⟩
theorem MS.mod_no (h : MS w lv live lg g gr r A L) (hm : Mod no w w') : MS w' lv live lg g gr r A L := h.mod hm (fun _ => ⟨fun c => c, fun c => c, fun c => c⟩) (fun c => c) (fun _ _ _ _ c => c)
theorem MS.two (h : MS w lv live lg g gr r A L) (hL : L.length ≤ 1048500) : Two w lv live lg g gr r A L := ⟨h.e, h.p, h.r, h.k, hL⟩
theorem MS.r_far (h : MS w lv live lg g gr r A L) : ¬ pset live g gr r := by
  obtain ⟨c, hb, _⟩ := h.r.at_
  exact h.p.far hb (by decide) (by decide)
theorem PAt.lg_lt (h : PAt w live lg g gr L) (e : live = true) : lg < w.heap.size := (h.l e).lt
theorem BumpR.ke (h : BumpR bottom L L' x ok) (hk : ∀ x ∈ L, KE x) : KE x ∧ ∀ x ∈ L', KE x := by
  rcases h with ⟨rfl, rfl, rfl, rfl⟩ | ⟨k, n, hk1, hx, h1, h2, rfl, rfl, rfl⟩
  · exact ⟨zl_ke, fun x hx => absurd hx (by simp)⟩
  · obtain ⟨bs, n', hb, h3, h4, he⟩ := hk _ (List.mem_of_getElem? hx)
    have e1 : k = kOf bs := by
      unfold ent at he
      exact (List.append_inj he (by rw [hk1.1]; simp [kOf, hb])).1
    subst e1
    have hn : KE (ent (kOf bs) (bumpI n)) := ⟨bs, bumpI n, hb, by unfold bumpI; split <;> omega, by unfold bumpI; split <;> omega, rfl⟩
    refine ⟨hn, fun y hy => ?_⟩
    rcases List.mem_or_eq_of_mem_set hy with h | rfl
    · exact hk y h
    · exact hn
theorem bumpR_ex (hk : ∀ x ∈ L, KE x) : ∃ L' x ok, BumpR bottom L L' x ok ∧ L'.length = L.length := by
  cases hl : L with
  | nil => exact ⟨_, _, _, .inl ⟨rfl, rfl, rfl, rfl⟩, rfl⟩
  | cons y T =>
    rw [← hl]
    have h : endN bottom L.length < L.length := by
      rw [hl]
      unfold endN
      split <;> simp
    obtain ⟨bs, n, hb, h1, h2, he⟩ := hk _ (List.getElem_mem h)
    exact ⟨_, _, _, .inr ⟨kOf bs, n, kOf_key hb, by rw [List.getElem?_eq_getElem h, he], h1, h2, rfl, rfl, rfl⟩, List.length_set⟩
theorem PopR.ke (h : PopR bottom L L' x ok) (hk : ∀ x ∈ L, KE x) : KE x ∧ (∀ x ∈ L', KE x) ∧ L'.length ≤ L.length := by
  rcases h with ⟨rfl, rfl, rfl, rfl⟩ | ⟨_, rfl, _⟩ | ⟨_, rfl, _⟩
  · exact ⟨zl_ke, fun x hx => absurd hx (by simp), Nat.le_refl _⟩
  · exact ⟨hk x (by simp), fun y hy => hk y (by simp [hy]), by simp⟩
  · exact ⟨hk x (by simp), fun y hy => hk y (by simp [hy]), by simp⟩
theorem AtR.ke (h : AtR bottom L x ok) (hk : ∀ x ∈ L, KE x) : KE x := by
  rcases h with ⟨_, rfl, _⟩ | ⟨h, _⟩
  · exact zl_ke
  · exact hk x (List.mem_of_getElem? h)
end
/-- What a call leaves. -/
def MPost (w w' : World) (lv : Option Addr) (live : Bool) (lg g gr r : Nat) (L : List (List Value)) : Prop := ∃ gr' A' L', MS w' lv live lg g gr' r A' L' ∧ L'.length ≤ L.length + 1 ∧ nextG w gr gr' ∧ Mod (fun b => pset live g gr b ∨ b = r) w w'
/-- A call of the script. -/
def mv (kd : Int) (none bottom : Bool) (k : List Value) : List Value := [.int .i64 kd, .bool none, .bool bottom] ++ k

def sR' : Code → Code | .seq _ b => b | c => c
noncomputable def movC : Code := Try.f16.body.getD .skip
noncomputable def m1C : Code := sR movC
noncomputable def m2C : Code := sR m1C
noncomputable def m3C : Code := sR m2C
noncomputable def m4C : Code := sR m3C
theorem wpList_eqlG {ops : Array Oper} {rest : List Oper} {o : Oper} {a : Act} {w : World} {Q : Exit → Act → World → Prop} (hgd : o.guard = none) (x y : Operand) (ho : o.op = .binOp .eql 89 x y 89) (u : List Value) (hx : a.eval x = .agg u.toArray) (hy : a.eval y = .agg u.toArray) (hu : KE u)
    (h : wpList Try.prog ops Q rest (a.put o.dst (.bool true)) w) : wpList Try.prog ops Q (o :: rest) a w :=
  wpList_plain hgd fun K hK => op_yield (y_eqlG ho hx hy hu) (hK _ _ h)

set_option maxRecDepth 100000 in
set_option maxHeartbeats 4000000 in
theorem mtail {w : World} {va vb : Nat} {ok : Bool} {x : List Value} (ha : Blk w va 89 x.toArray) (hb : Blk w vb 89 x.toArray) (hx : KE x)
    (d0 d1 d2 d3 d4 d5 d6 d11 d12 d13 d14 d15 d16 d17 d18 d19 d20 d21 d22 d23 d24 d25 d26 d27 d28 d29 d30 d31 d32 d33 d34 d35 d36 d37 d38 d39 d40 d41 d42 d43 d44 d45 d46 d47 d48 d49 d50 d51 d52 d53 d54 d55 d56 d57 d58 d59 d60 d61 d62 d63 d64 d65 d66 d67 d68 d69 d70 d71 d72 d73 d74 d75 d76 d77 d78 d79 d80 d81 d82 d83 d84 d85 d86 d87 d88 d89 d90 d91 d92 d93 d94 d95 d96 d97 d98 d99 d100 d101 : Value) (Q : Exit → Act → World → Prop) (hexit : ∀ (u6 u94 u95 u96 u97 u98 u99 u100 u101 : Value), u6 = .bool true → Q .ret ⟨List.toArray (d0 :: d1 :: d2 :: d3 :: d4 :: d5 :: u6 :: (.pointer (some ⟨va, 0, none⟩)) :: (.pointer (some ⟨vb, 0, none⟩)) :: (.bool ok) :: (.bool ok) :: d11 :: d12 :: d13 :: d14 :: d15 :: d16 :: d17 :: d18 :: d19 :: d20 :: d21 :: d22 :: d23 :: d24 :: d25 :: d26 :: d27 :: d28 :: d29 :: d30 :: d31 :: d32 :: d33 :: d34 :: d35 :: d36 :: d37 :: d38 :: d39 :: d40 :: d41 :: d42 :: d43 :: d44 :: d45 :: d46 :: d47 :: d48 :: d49 :: d50 :: d51 :: d52 :: d53 :: d54 :: d55 :: d56 :: d57 :: d58 :: d59 :: d60 :: d61 :: d62 :: d63 :: d64 :: d65 :: d66 :: d67 :: d68 :: d69 :: d70 :: d71 :: d72 :: d73 :: d74 :: d75 :: d76 :: d77 :: d78 :: d79 :: d80 :: d81 :: d82 :: d83 :: d84 :: d85 :: d86 :: d87 :: d88 :: d89 :: d90 :: d91 :: d92 :: d93 :: u94 :: u95 :: u96 :: u97 :: u98 :: u99 :: u100 :: u101 :: []), []⟩ w) :
    Code.wp Try.prog m4C Q ⟨List.toArray (d0 :: d1 :: d2 :: d3 :: d4 :: d5 :: d6 :: (.pointer (some ⟨va, 0, none⟩)) :: (.pointer (some ⟨vb, 0, none⟩)) :: (.bool ok) :: (.bool ok) :: d11 :: d12 :: d13 :: d14 :: d15 :: d16 :: d17 :: d18 :: d19 :: d20 :: d21 :: d22 :: d23 :: d24 :: d25 :: d26 :: d27 :: d28 :: d29 :: d30 :: d31 :: d32 :: d33 :: d34 :: d35 :: d36 :: d37 :: d38 :: d39 :: d40 :: d41 :: d42 :: d43 :: d44 :: d45 :: d46 :: d47 :: d48 :: d49 :: d50 :: d51 :: d52 :: d53 :: d54 :: d55 :: d56 :: d57 :: d58 :: d59 :: d60 :: d61 :: d62 :: d63 :: d64 :: d65 :: d66 :: d67 :: d68 :: d69 :: d70 :: d71 :: d72 :: d73 :: d74 :: d75 :: d76 :: d77 :: d78 :: d79 :: d80 :: d81 :: d82 :: d83 :: d84 :: d85 :: d86 :: d87 :: d88 :: d89 :: d90 :: d91 :: d92 :: d93 :: d94 :: d95 :: d96 :: d97 :: d98 :: d99 :: d100 :: d101 :: []), []⟩ w := by
  have HLE := Lib.hid hexit
  have H0 := Lib.hid (And.intro ha (And.intro hb hx))
  clear hexit ha hb hx
  conv => arg 2; whnf
  cases ok <;>
  · go_wp2_with (first
      | (refine wpList_load_mid rfl 89 (.tmp 7) rfl va 0 rfl x _ (var_range H0.out.1) Try.underlying89 rfl (grey_info H0.out.2.2.ele.1) ?_)
      | (refine wpList_load_mid rfl 89 (.tmp 8) rfl vb 0 rfl x _ (var_range H0.out.2.1) Try.underlying89 rfl (grey_info H0.out.2.2.ele.1) ?_)
      | (refine wpList_eqlG rfl (.tmp 94) (.tmp 95) rfl x rfl rfl H0.out.2.2 ?_))
    exact HLE.out _ _ _ _ _ _ _ _ _ rfl

end Go.Proofs.Ytknbehjhaaidoaa.DG
