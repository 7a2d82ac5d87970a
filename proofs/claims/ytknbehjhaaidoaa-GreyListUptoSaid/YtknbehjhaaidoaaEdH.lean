/- The law's own: what is compared at its end (printed by greyown2.py). -/
import Derived.Test.YtknbehjhaaidoaaEdG
namespace Go.Proofs.Ytknbehjhaaidoaa.DG
open Go.RowKit Mem DQ
set_option linter.unusedVariables false
set_option linter.unusedSimpArgs false

def sR : Code → Code | .seq _ b => b | c => c
def sL : Code → Code | .seq a _ => a | c => c
noncomputable def ownC : Code := Try.f17.body.getD .skip
noncomputable def w1C : Code := sR ownC
noncomputable def w2C : Code := sR w1C
noncomputable def w3C : Code := sR w2C
noncomputable def w4C : Code := sR w3C
noncomputable def w5C : Code := sR w4C
noncomputable def w6C : Code := sR w5C
noncomputable def w7C : Code := sR w6C
noncomputable def w8C : Code := sR w7C

theorem op_all {a : Act} {o : Oper} {w : World} {K : Act → World → Prop} {Q : Exit → Act → World → Prop} {x0 : Operand} {t0 : TypeId} {v0 : Value} {R : Ending → World → Prop} (ho : o.op = .call { callee := .value (.func 46), args := #[x0], argTypes := #[t0] }) (h0 : a.eval x0 = v0)
    (hC : Calls Try.prog 46 #[v0] w R) (hR : ∀ e w', R e w' → ∃ u, e = .returned u ∧ K (a.put o.dst u) w') : Oper.wp Try.prog o a w K Q := by
  have h : (execOp a.eval o).run Try.prog w = .ok (.enter 46 #[v0]) w := by
    have hf : a.eval (.func 46) = .func (.func 46) #[] #[] := rfl
    generalize a.eval = ev at h0 hf
    unfold execOp
    simp only [ho]
    go_simp
  unfold Oper.wp
  rw [h, Oper.upon_enter]
  refine hC.mono fun e w' hr => ?_
  obtain ⟨u, rfl, hk⟩ := hR e w' hr
  exact hk
theorem op_alike {a : Act} {o : Oper} {w : World} {K : Act → World → Prop} {Q : Exit → Act → World → Prop} {x0 x1 : Operand} {t0 t1 : TypeId} {v0 v1 : Value} {R : Ending → World → Prop} (ho : o.op = .call { callee := .value (.func 47), args := #[x0, x1], argTypes := #[t0, t1] }) (h0 : a.eval x0 = v0) (h1 : a.eval x1 = v1)
    (hC : Calls Try.prog 47 #[v0, v1] w R) (hR : ∀ e w', R e w' → ∃ u, e = .returned u ∧ K (a.put o.dst u) w') : Oper.wp Try.prog o a w K Q := by
  have h : (execOp a.eval o).run Try.prog w = .ok (.enter 47 #[v0, v1]) w := by
    have hf : a.eval (.func 47) = .func (.func 47) #[] #[] := rfl
    generalize a.eval = ev at h0 h1 hf
    unfold execOp
    simp only [ho]
    go_simp
  unfold Oper.wp
  rw [h, Oper.upon_enter]
  refine hC.mono fun e w' hr => ?_
  obtain ⟨u, rfl, hk⟩ := hR e w' hr
  exact hk
theorem Num.base {w : World} {base n k c : Nat} {A : Option Addr} {z : Int} (h : Num w base (.slice A n c) n k z) (hn : 0 < n) : ∃ g, A = some ⟨g, 0, none⟩ ∧ base ≤ g ∧ g < w.heap.size := by
  obtain ⟨g, cap, e, h1, h2⟩ := h.head hn
  injection e with e
  exact ⟨g, e, h1, h2⟩
/-- The two lists that the law compares. -/
def Two (w : World) (lv : Option Addr) (live : Bool) (lg g gr r : Nat) (A : Option Addr) (L : List (List Value)) : Prop := lv = lvP live lg ∧ PAt w live lg g gr L ∧ RAt w r A L ∧ (∀ x ∈ L, KE x) ∧ L.length ≤ 1048500
theorem Two.mod_no {w w' : World} {lv : Option Addr} {live : Bool} {lg g gr r : Nat} {A : Option Addr} {L : List (List Value)} (h : Two w lv live lg g gr r A L) (hm : Mod no w w') : Two w' lv live lg g gr r A L := ⟨h.1, h.2.1.mod_no hm, h.2.2.1.mod_no hm, h.2.2.2⟩
theorem Two.all {w : World} {lv : Option Addr} {live : Bool} {lg g gr r : Nat} {A : Option Addr} {L : List (List Value)} (h : Two w lv live lg g gr r A L) : Calls Try.prog 46 #[.pointer lv] w fun e w' => ∃ B cb, e = .returned (.slice B L.length cb) ∧ w'.ownsRow w.heap.size 89 33 (.slice B L.length cb) L.length L.flatten ∧ Src w' B L ∧ Mod no w w' := by
  obtain ⟨rfl, hp, hr, he, hL⟩ := h
  refine (all_l hp (by omega)).mono ?_
  rintro e w' ⟨v, rfl, ho, m⟩
  obtain ⟨B, cb, rfl, hs, _⟩ := Src.own ho (fun x hx => (he x hx).ele)
  exact ⟨B, cb, rfl, ho, hs, m⟩
theorem Two.alike {w w' : World} {lv : Option Addr} {live : Bool} {lg g gr r c cb : Nat} {A B : Option Addr} {L : List (List Value)} (h : Two w lv live lg g gr r A L) (hs : Src w B L) : Calls Try.prog 47 #[.slice B L.length cb, .slice A L.length c] w fun e w' => e = .returned (.bool true) ∧ Mod no w w' := by
  obtain ⟨rfl, hp, hr, he, hL⟩ := h
  obtain ⟨c', _, hr, _⟩ := hr.at_
  exact alike_same hs hr he (by omega)

set_option maxRecDepth 100000 in
set_option maxHeartbeats 4000000 in
theorem w8_any {W w0 : World} {lv : Option Addr} {live : Bool} {lg g gr r n ca cb : Nat} {A Aa Ab : Option Addr} {L : List (List Value)} (h : Two w0 lv live lg g gr r A L) (hM : Mod no W w0)
    (d2 d3 d4 d7 d8 d9 d10 d11 d12 d13 d14 d15 d16 d17 d18 d19 d20 d21 d22 d23 d24 d25 d26 d27 d28 d29 d30 d31 d32 d33 d34 d35 d36 d37 d38 d39 d40 d41 d42 d43 d44 d45 d46 d47 d48 d49 d50 d51 d52 d53 d54 d55 d56 d57 d58 d59 d60 d61 d62 d63 d64 d65 d66 d67 d68 d69 d70 d71 d72 d73 d74 d75 d76 d77 d78 d79 d80 d81 d82 d83 d84 d85 d86 d87 d88 d89 d90 d91 d92 d93 d94 d95 d96 d97 d98 d99 d100 d101 d102 d103 d104 d105 d106 d107 d108 d109 d110 d111 d112 d113 d114 d115 d116 d117 d118 d119 d120 d121 d122 : Value) (Q : Exit → Act → World → Prop)
    (hexit : ∀ (u4 u116 u117 u118 u119 u120 u121 u122 : Value) (w' : World), u4 = .bool true → Mod no W w' → Q .ret ⟨List.toArray ((.pointer lv) :: (.pointer (some ⟨r, 0, none⟩)) :: d2 :: d3 :: u4 :: (.slice Aa n ca) :: (.slice Ab n cb) :: d7 :: d8 :: d9 :: d10 :: d11 :: d12 :: d13 :: d14 :: d15 :: d16 :: d17 :: d18 :: d19 :: d20 :: d21 :: d22 :: d23 :: d24 :: d25 :: d26 :: d27 :: d28 :: d29 :: d30 :: d31 :: d32 :: d33 :: d34 :: d35 :: d36 :: d37 :: d38 :: d39 :: d40 :: d41 :: d42 :: d43 :: d44 :: d45 :: d46 :: d47 :: d48 :: d49 :: d50 :: d51 :: d52 :: d53 :: d54 :: d55 :: d56 :: d57 :: d58 :: d59 :: d60 :: d61 :: d62 :: d63 :: d64 :: d65 :: d66 :: d67 :: d68 :: d69 :: d70 :: d71 :: d72 :: d73 :: d74 :: d75 :: d76 :: d77 :: d78 :: d79 :: d80 :: d81 :: d82 :: d83 :: d84 :: d85 :: d86 :: d87 :: d88 :: d89 :: d90 :: d91 :: d92 :: d93 :: d94 :: d95 :: d96 :: d97 :: d98 :: d99 :: d100 :: d101 :: d102 :: d103 :: d104 :: d105 :: d106 :: d107 :: d108 :: d109 :: d110 :: d111 :: d112 :: d113 :: d114 :: d115 :: u116 :: u117 :: u118 :: u119 :: u120 :: u121 :: u122 :: []), []⟩ w') :
    Code.wp Try.prog w8C Q ⟨List.toArray ((.pointer lv) :: (.pointer (some ⟨r, 0, none⟩)) :: d2 :: d3 :: d4 :: (.slice Aa n ca) :: (.slice Ab n cb) :: d7 :: d8 :: d9 :: d10 :: d11 :: d12 :: d13 :: d14 :: d15 :: d16 :: d17 :: d18 :: d19 :: d20 :: d21 :: d22 :: d23 :: d24 :: d25 :: d26 :: d27 :: d28 :: d29 :: d30 :: d31 :: d32 :: d33 :: d34 :: d35 :: d36 :: d37 :: d38 :: d39 :: d40 :: d41 :: d42 :: d43 :: d44 :: d45 :: d46 :: d47 :: d48 :: d49 :: d50 :: d51 :: d52 :: d53 :: d54 :: d55 :: d56 :: d57 :: d58 :: d59 :: d60 :: d61 :: d62 :: d63 :: d64 :: d65 :: d66 :: d67 :: d68 :: d69 :: d70 :: d71 :: d72 :: d73 :: d74 :: d75 :: d76 :: d77 :: d78 :: d79 :: d80 :: d81 :: d82 :: d83 :: d84 :: d85 :: d86 :: d87 :: d88 :: d89 :: d90 :: d91 :: d92 :: d93 :: d94 :: d95 :: d96 :: d97 :: d98 :: d99 :: d100 :: d101 :: d102 :: d103 :: d104 :: d105 :: d106 :: d107 :: d108 :: d109 :: d110 :: d111 :: d112 :: d113 :: d114 :: d115 :: d116 :: d117 :: d118 :: d119 :: d120 :: d121 :: d122 :: []), []⟩ w0 := by
  have HLE := Lib.hid hexit
  obtain ⟨c, hb, _⟩ := h.2.2.1.at_
  have H0 := Lib.hid (And.intro h (And.intro hM hb))
  clear hexit h hM hb
  show Code.wp Try.prog (Code.seq (sL w8C) .ret) Q _ _
  refine wp_seq_k fun K0 hK0 => ?_
  have HK0 := Lib.hid hK0
  clear hK0
  conv => arg 2; whnf
  refine Code.wp_mono (Q := RetP K0) (fun e a w q => by cases e <;> first | exact q | exact q.elim) ?_
  go_wp2_with fail
  have m1 : Mod no w0 w0.drew := (Mod.refl no w0).drew
  refine wp_region_held_drew (S := fun w' => Blk w' r 37 #[.slice A L.length c]) (by kernel_rfl) H0.out.2.2.drew (fun hHeld => ?_)
  refine takeD (i := 0) (d := some 116) (v := (.pointer lv)) rfl (by kernel_rfl) (by kernel_rfl) (by kernel_rfl) rfl (fun _ _ _ h => h) (Or.inl ⟨by kernel_rfl, fun w9 hw => y_move rfl rfl⟩) hHeld ?_
  simp only [Act.put, List.setIfInBounds_toArray, List.set_cons_zero, List.set_cons_succ]
  refine takeD (i := 2) (d := some 118) (v := (.pointer (some ⟨r, 0, none⟩))) rfl (by kernel_rfl) (by kernel_rfl) (by kernel_rfl) rfl (fun _ _ _ h => h) (Or.inl ⟨by kernel_rfl, fun w9 hw => y_move rfl rfl⟩) hHeld ?_
  simp only [Act.put, List.setIfInBounds_toArray, List.set_cons_zero, List.set_cons_succ]
  refine takeD (i := 3) (d := some 119) (v := (.pointer (some ⟨r, 0, none⟩))) rfl (by kernel_rfl) (by kernel_rfl) (by kernel_rfl) rfl (fun _ _ _ h => h) (Or.inl ⟨by kernel_rfl, fun w9 hw => y_nil rfl rfl⟩) hHeld ?_
  simp only [Act.put, List.setIfInBounds_toArray, List.set_cons_zero, List.set_cons_succ]
  refine takeD (i := 4) (d := some 120) (v := (.pointer (some ⟨r, 0, none⟩))) rfl (by kernel_rfl) (by kernel_rfl) (by kernel_rfl) rfl (fun _ _ _ h => h) (Or.inl ⟨by kernel_rfl, fun w9 hw => y_reff rfl rfl⟩) hHeld ?_
  simp only [Act.put, List.setIfInBounds_toArray, List.set_cons_zero, List.set_cons_succ]
  refine takeD (i := 5) (d := some 121) (v := (.slice A L.length c)) rfl (by kernel_rfl) (by kernel_rfl) (by kernel_rfl) rfl (fun _ _ _ h => h) (Or.inl ⟨by kernel_rfl, fun w9 hw => y_load rfl (.inr rfl) rfl (by rw [hw.cell]; rfl) rfl⟩) hHeld ?_
  simp only [Act.put, List.setIfInBounds_toArray, List.set_cons_zero, List.set_cons_succ]
  refine readyD (i := 1) (d := some 117) rfl (by kernel_rfl) rfl (by kernel_rfl) fun K hK => ?_
  refine op_all rfl rfl (H0.out.1.mod_no m1).all ?_
  rintro e w3 ⟨B, cb, rfl, ho, hs, m3⟩
  have hHeld3 := hHeld.mod m3 (fun c => c)
  refine ⟨_, rfl, hK _ _ hHeld3 fun _ => ?_⟩
  have H3 := Lib.hid (And.intro ((H0.out.1.mod_no m1).mod_no m3) (And.intro hs ((H0.out.2.1.and_then m1).and_then m3)))
  clear hK K hHeld m3 hs ho
  have hHeld := hHeld3
  simp only [Act.put, List.setIfInBounds_toArray, List.set_cons_zero, List.set_cons_succ]
  refine readyD (i := 6) (d := some 122) rfl (by kernel_rfl) rfl (by kernel_rfl) fun K hK => ?_
  refine op_alike rfl rfl rfl (H3.out.1.alike (w' := w3) H3.out.2.1) ?_
  rintro e w4 ⟨rfl, m4⟩
  have hHeld4 := hHeld.mod m4 (fun c => c)
  refine ⟨_, rfl, hK _ _ hHeld4 fun _ => ?_⟩
  have H4 := Lib.hid (H3.out.2.2.and_then m4)
  clear hK K hHeld m4
  have hHeld := hHeld4
  simp only [Act.put, List.setIfInBounds_toArray, List.set_cons_zero, List.set_cons_succ]
  refine takeD (i := 7) (d := some 4) (v := (.bool true)) rfl (by kernel_rfl) (by kernel_rfl) (by kernel_rfl) rfl (fun _ _ _ h => h) (Or.inl ⟨by kernel_rfl, fun w9 hw => y_assign rfl rfl⟩) hHeld ?_
  simp only [Act.put, List.setIfInBounds_toArray, List.set_cons_zero, List.set_cons_succ]
  refine wpAnyH_done (by kernel_rfl) ?_ _
  refine HK0.out _ _ ?_
  go_wp2_with fail
  exact HLE.out _ _ _ _ _ _ _ _ _ rfl H4.out

end Go.Proofs.Ytknbehjhaaidoaa.DG
