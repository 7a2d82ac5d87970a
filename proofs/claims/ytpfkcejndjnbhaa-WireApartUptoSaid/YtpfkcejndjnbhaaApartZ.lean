/- The law WireApart: the last comparison (printed by wireaparts.py). -/
import Derived.Test.YtpfkcejndjnbhaaApartA
import Derived.StillTailTactics
namespace Go.Proofs.Ytpfkcejndjnbhaa.AP
open Go.RowKit Mem WM
open Go.Proofs.Ytpfkcejndjnbhaa.WD (RdT RdB u8_info own_mod key_size rowS conv_string)
open Go.Proofs.Ytpfkcejndjnbhaa.OP (AddI AddAt allB allB_0 allB_succ Elems cell_lt atA copied_r)
open Go.Proofs.Ytpfkcejndjnbhaa.EN
open Go.Proofs.Ytpfkcejndjnbhaa.EK (RdT.pre Safe nextK)
open Go.Proofs.Ytpfkcejndjnbhaa.AD (Enc0)
open Go.Proofs.Ytpfkcejndjnbhaa.BK (conv_rds add_range range_mod add_info allB_le)
open Go.Proofs.Ytpfkcejndjnbhaa.ON (addL_len)
set_option linter.unusedVariables false
set_option linter.unusedSimpArgs false

def RetP (R : Act → World → Prop) : Exit → Act → World → Prop
  | .normal, a, w => R a w
  | _, _, _ => False

/-- What is held to the end. -/
structure ApZ (W : World) (q r : Nat) (P X Y : List UInt8) (A1 A2 Aa Ao At Ac : Option Addr) (w : World) : Prop where
  e : EncR w q A1 (P ++ X)
  f : EncR w r A2 (P ++ Y)
  ra : RdT w Aa P
  ro : RdT w Ao X
  rt : RdT w At Y
  rc : RdT w Ac (P ++ Y)
  old : Mod no W w

theorem encR_no {w w' : World} {g : Nat} {A : Option Addr} {bs : List UInt8} (h : EncR w g A bs) (hm : Mod no w w') : EncR w' g A bs := by
  rcases h with h | ⟨h1, A0, c, ow, hb, hr, ho⟩
  · exact .inl (h.mod hm (fun c => c) (fun _ _ c => c))
  · refine .inr ⟨h1, A0, c, ow, hb.mod hm (fun c => c), rdt_mod hr hm (fun _ _ _ c => c), ?_⟩
    rcases ho with ho | ⟨q, cs, h1, h2, h3⟩
    · exact .inl ho
    · exact .inr ⟨q, cs, h1, h2, h3.mod hm (fun c => c)⟩
theorem ApZ.mod_no {W w w' : World} {q r : Nat} {P X Y : List UInt8} {A1 A2 Aa Ao At Ac : Option Addr} (h : ApZ W q r P X Y A1 A2 Aa Ao At Ac w) (hm : Mod no w w') : ApZ W q r P X Y A1 A2 Aa Ao At Ac w' :=
  ⟨encR_no h.e hm, encR_no h.f hm, rdt_mod h.ra hm (fun _ _ _ c => c), rdt_mod h.ro hm (fun _ _ _ c => c), rdt_mod h.rt hm (fun _ _ _ c => c), rdt_mod h.rc hm (fun _ _ _ c => c), h.old.and_then hm⟩

section
variable {a : Act} {o : Oper} {w w' : World}
theorem y_move {x : Operand} {v : Value} (ho : o.op = .move x) (hx : a.eval x = v) : (execOp a.eval o).run Try.prog w = .ok (.value v) w := by
  unfold execOp
  simp only [ho, Sem.run_bind, Sem.run_pure, Result.andThen_ok, hx]
theorem y_assign {x : Operand} {v : Value} (ho : o.op = .assign x) (hx : a.eval x = v) : (execOp a.eval o).run Try.prog w = .ok (.value v) w := by
  unfold execOp
  simp only [ho, Sem.run_bind, Sem.run_pure, Result.andThen_ok, hx]
theorem y_conv {x : Operand} {A : Option Addr} {n c : Nat} {l : List UInt8} (ho : o.op = .convert 23 9 x) (hx : a.eval x = .slice A n c) (h : RdT w A l) (hn : n = l.length) : (execOp a.eval o).run Try.prog w = .ok (.value (.string ⟨l.toArray⟩)) w := by
  unfold execOp
  simp only [ho, Sem.run_bind, Sem.run_pure, Result.andThen_ok, hx, conv_string h n c hn]
theorem y_add {x y : Operand} {l m : List UInt8} (ho : o.op = .binOp .add 9 x y 9) (hx : a.eval x = .string ⟨l.toArray⟩) (hy : a.eval y = .string ⟨m.toArray⟩) (hl : l.length + m.length ≤ 9223372036854775807) : (execOp a.eval o).run Try.prog w = .ok (.value (.string ⟨(l ++ m).toArray⟩)) w := by
  have e : (⟨(l ++ m).toArray⟩ : ByteArray) = ⟨l.toArray⟩ ++ ⟨m.toArray⟩ := by
    apply ByteArray.ext
    simp
  rw [e]
  unfold execOp
  simp only [ho, hx, hy]
  go_simp
theorem y_eql {x y : Operand} {l : List UInt8} (ho : o.op = .binOp .eql 9 x y 9) (hx : a.eval x = .string ⟨l.toArray⟩) (hy : a.eval y = .string ⟨l.toArray⟩) : (execOp a.eval o).run Try.prog w = .ok (.value (.bool true)) w := by
  unfold execOp
  simp only [ho, hx, hy]
  go_simp
theorem y_pick {c x y : Operand} {v : Value} (ho : o.op = .pick c x y) (hc : a.eval c = .bool true) (hx : a.eval x = v) : (execOp a.eval o).run Try.prog w = .ok (.value v) w := by
  unfold execOp
  simp only [ho, hc, hx]
  go_simp
theorem op_call {K : Act → World → Prop} {Q : Exit → Act → World → Prop} {x : Operand} {t : TypeId} {v : Value} {R : Ending → World → Prop} (ho : o.op = .call { callee := .value (.func 12), args := #[x], argTypes := #[t] }) (hx : a.eval x = v)
    (hC : Calls Try.prog 12 #[v] w R) (hR : ∀ e w', R e w' → ∃ u, e = .returned u ∧ K (a.put o.dst u) w') : Oper.wp Try.prog o a w K Q := by
  have h : (execOp a.eval o).run Try.prog w = .ok (.enter 12 #[v]) w := by
    have hf : a.eval (.func 12) = .func (.func 12) #[] #[] := rfl
    generalize a.eval = ev at hx hf
    unfold execOp
    simp only [ho]
    go_simp
  unfold Oper.wp
  rw [h, Oper.upon_enter]
  refine hC.mono fun e w' hr => ?_
  obtain ⟨u, rfl, hk⟩ := hR e w' hr
  exact hk
theorem op_yield {v : Value} {K : Act → World → Prop} {Q : Exit → Act → World → Prop} (h : (execOp a.eval o).run Try.prog w = .ok (.value v) w') (hK : K (a.put o.dst v) w') : Oper.wp Try.prog o a w K Q := by
  unfold Oper.wp
  rw [h]
  exact hK
/-- RegionHeld's laws, the slot told apart from the operation. -/
theorem takeD {ops : Array Oper} {Q : Exit → Act → World → Prop} {md : Region.Mode} {S : World → Prop} {i : Nat} {oi : Oper} {d : Option Tmp} {v : Value} {fuel : Nat} {listed : Array Bool} (hi : ops[i]? = some oi)
    (hs : Region.noSelect ops = true) (hf : Region.free md ops listed i = true) (hr : (Region.ready md ops listed).contains i = true) (hd : oi.dst = d)
    (hQ : ∀ c a w, Q (.panic c) (a.put d v) w → Q (.panic c) a w) (hy : YieldsIf Try.prog ops S oi v a) (hS : S w)
    (h : wpAnyH Try.prog md ops Q S fuel (listed.setIfInBounds i true) (a.put d v) w) : wpAnyH Try.prog md ops Q S (fuel + 1) listed a w := by
  subst hd
  exact wpAnyH_take hi hs hf hr hQ hy hS h
theorem readyD {ops : Array Oper} {Q : Exit → Act → World → Prop} {md : Region.Mode} {S : World → Prop} {i : Nat} {oi : Oper} {d : Option Tmp} {fuel : Nat} {listed : Array Bool} (hi : ops[i]? = some oi) (hr : Region.ready md ops listed = [i]) (hd : oi.dst = d)
    (hw : Region.wanted oi (yielded ops a.tmps) = true)
    (h : ∀ K : Act → World → Prop, (∀ (u : Value) (w' : World), S w' → (S w' → wpAnyH Try.prog md ops Q S fuel (listed.setIfInBounds i true) (a.put d u) w') → K (a.put oi.dst u) w') → Oper.wp Try.prog oi a w K Q) : wpAnyH Try.prog md ops Q S (fuel + 1) listed a w := by
  subst hd
  refine wpAnyH_ready hr (by simp) (AllReadyH.cons hi (fun K hK => ?_) AllReadyH.nil)
  rw [if_pos hw]
  exact h K fun u w' h1 h2 => hK.out _ _ h1 h2
end

set_option maxRecDepth 100000 in
set_option maxHeartbeats 4000000 in
theorem last_any {W : World} {q r : Nat} {P X Y : List UInt8} {A1 A2 Aa Ao At Ac : Option Addr} {ca co ct cc : Nat} {w0 : World} (H : ApZ W q r P X Y A1 A2 Aa Ao At Ac w0) (hl : P.length ≤ 60000000 ∧ X.length ≤ 60000000 ∧ Y.length ≤ 60000000)
    (d0 d1 d2 d3 d4 d5 d6 d11 d13 d14 d16 d17 d18 d19 d20 d21 d22 d23 d24 d25 d26 d27 d28 d29 d30 d31 d32 d33 d34 d35 d36 d37 d38 d39 d40 d41 d42 d43 d44 d45 d46 d47 d48 d49 d50 d51 d52 d53 d54 d55 d56 d57 d58 d59 d60 d61 d62 d63 d64 d65 d66 d67 d68 d69 d70 d71 d72 d73 d74 d75 d76 d77 d78 d79 d80 d81 d82 d83 d84 d85 d86 d87 d88 d89 d90 d91 d92 d93 d94 d95 d96 d97 d98 d99 d100 d101 d102 d103 d104 d105 d106 d107 d108 d109 d110 d111 d112 d113 d114 d115 d116 d117 d118 d119 d120 d121 d122 d123 d124 d125 d126 d127 d128 d129 d130 d131 d132 d133 d134 d135 d136 d137 d138 d139 d140 d141 d142 d143 d144 d145 d146 d147 d148 d149 : Value) (Q : Exit → Act → World → Prop)
    (hexit : ∀ (u6 u122 u123 u124 u125 u126 u127 u128 u129 u130 u131 u132 u133 u134 u135 u136 u137 u138 u139 u140 u141 u142 u143 u144 u145 u146 u147 u148 u149 : Value) (w' : World), u6 = .bool true → Mod no W w' → Q .ret ⟨List.toArray (d0 :: d1 :: d2 :: d3 :: d4 :: d5 :: u6 :: (.pointer (some ⟨q, 0, none⟩)) :: (.slice Aa P.length ca) :: (.slice Ao X.length co) :: (.slice At Y.length ct) :: d11 :: (.pointer (some ⟨r, 0, none⟩)) :: d13 :: d14 :: (.slice Ac (P.length + Y.length) cc) :: d16 :: d17 :: d18 :: d19 :: d20 :: d21 :: d22 :: d23 :: d24 :: d25 :: d26 :: d27 :: d28 :: d29 :: d30 :: d31 :: d32 :: d33 :: d34 :: d35 :: d36 :: d37 :: d38 :: d39 :: d40 :: d41 :: d42 :: d43 :: d44 :: d45 :: d46 :: d47 :: d48 :: d49 :: d50 :: d51 :: d52 :: d53 :: d54 :: d55 :: d56 :: d57 :: d58 :: d59 :: d60 :: d61 :: d62 :: d63 :: d64 :: d65 :: d66 :: d67 :: d68 :: d69 :: d70 :: d71 :: d72 :: d73 :: d74 :: d75 :: d76 :: d77 :: d78 :: d79 :: d80 :: d81 :: d82 :: d83 :: d84 :: d85 :: d86 :: d87 :: d88 :: d89 :: d90 :: d91 :: d92 :: d93 :: d94 :: d95 :: d96 :: d97 :: d98 :: d99 :: d100 :: d101 :: d102 :: d103 :: d104 :: d105 :: d106 :: d107 :: d108 :: d109 :: d110 :: d111 :: d112 :: d113 :: d114 :: d115 :: d116 :: d117 :: d118 :: d119 :: d120 :: d121 :: u122 :: u123 :: u124 :: u125 :: u126 :: u127 :: u128 :: u129 :: u130 :: u131 :: u132 :: u133 :: u134 :: u135 :: u136 :: u137 :: u138 :: u139 :: u140 :: u141 :: u142 :: u143 :: u144 :: u145 :: u146 :: u147 :: u148 :: u149 :: []), []⟩ w') :
    Code.wp Try.prog t3C Q ⟨List.toArray (d0 :: d1 :: d2 :: d3 :: d4 :: d5 :: d6 :: (.pointer (some ⟨q, 0, none⟩)) :: (.slice Aa P.length ca) :: (.slice Ao X.length co) :: (.slice At Y.length ct) :: d11 :: (.pointer (some ⟨r, 0, none⟩)) :: d13 :: d14 :: (.slice Ac (P.length + Y.length) cc) :: d16 :: d17 :: d18 :: d19 :: d20 :: d21 :: d22 :: d23 :: d24 :: d25 :: d26 :: d27 :: d28 :: d29 :: d30 :: d31 :: d32 :: d33 :: d34 :: d35 :: d36 :: d37 :: d38 :: d39 :: d40 :: d41 :: d42 :: d43 :: d44 :: d45 :: d46 :: d47 :: d48 :: d49 :: d50 :: d51 :: d52 :: d53 :: d54 :: d55 :: d56 :: d57 :: d58 :: d59 :: d60 :: d61 :: d62 :: d63 :: d64 :: d65 :: d66 :: d67 :: d68 :: d69 :: d70 :: d71 :: d72 :: d73 :: d74 :: d75 :: d76 :: d77 :: d78 :: d79 :: d80 :: d81 :: d82 :: d83 :: d84 :: d85 :: d86 :: d87 :: d88 :: d89 :: d90 :: d91 :: d92 :: d93 :: d94 :: d95 :: d96 :: d97 :: d98 :: d99 :: d100 :: d101 :: d102 :: d103 :: d104 :: d105 :: d106 :: d107 :: d108 :: d109 :: d110 :: d111 :: d112 :: d113 :: d114 :: d115 :: d116 :: d117 :: d118 :: d119 :: d120 :: d121 :: d122 :: d123 :: d124 :: d125 :: d126 :: d127 :: d128 :: d129 :: d130 :: d131 :: d132 :: d133 :: d134 :: d135 :: d136 :: d137 :: d138 :: d139 :: d140 :: d141 :: d142 :: d143 :: d144 :: d145 :: d146 :: d147 :: d148 :: d149 :: []), []⟩ w0 := by
  have HLE := Lib.hid hexit
  have HL := Lib.hid hl
  clear hexit hl
  show Code.wp Try.prog (Code.seq (sL t3C) (sR t3C)) Q _ _
  refine wp_seq ?_
  refine Code.wp_mono (Q := RetP (fun a w => Code.wp Try.prog (sR t3C) Q a w)) (fun e a w q => by cases e <;> first | exact q | exact q.elim) ?_
  conv => arg 2; whnf
  refine wp_region_held_drew (S := fun w' => ApZ W q r P X Y A1 A2 Aa Ao At Ac w') (by kernel_rfl) (H.mod_no ((Mod.refl no w0).drew)) (fun hHeld => ?_)
  clear H
  refine takeD (i := 2) (d := some 124) (v := (.slice Aa P.length ca)) rfl (by kernel_rfl) (by kernel_rfl) (by kernel_rfl) rfl (fun _ _ _ h => h) (Or.inl ⟨by kernel_rfl, fun w hw => y_move rfl rfl⟩) hHeld ?_
  simp only [Act.put, List.setIfInBounds_toArray, List.set_cons_zero, List.set_cons_succ]
  refine takeD (i := 3) (d := some 125) (v := (.string ⟨P.toArray⟩)) rfl (by kernel_rfl) (by kernel_rfl) (by kernel_rfl) rfl (fun _ _ _ h => h) (Or.inl ⟨by kernel_rfl, fun w hw => y_conv rfl rfl hw.ra rfl⟩) hHeld ?_
  simp only [Act.put, List.setIfInBounds_toArray, List.set_cons_zero, List.set_cons_succ]
  refine takeD (i := 4) (d := some 126) (v := (.slice Ao X.length co)) rfl (by kernel_rfl) (by kernel_rfl) (by kernel_rfl) rfl (fun _ _ _ h => h) (Or.inl ⟨by kernel_rfl, fun w hw => y_move rfl rfl⟩) hHeld ?_
  simp only [Act.put, List.setIfInBounds_toArray, List.set_cons_zero, List.set_cons_succ]
  refine takeD (i := 5) (d := some 127) (v := (.string ⟨X.toArray⟩)) rfl (by kernel_rfl) (by kernel_rfl) (by kernel_rfl) rfl (fun _ _ _ h => h) (Or.inl ⟨by kernel_rfl, fun w hw => y_conv rfl rfl hw.ro rfl⟩) hHeld ?_
  simp only [Act.put, List.setIfInBounds_toArray, List.set_cons_zero, List.set_cons_succ]
  refine takeD (i := 6) (d := some 128) (v := (.string ⟨(P ++ X).toArray⟩)) rfl (by kernel_rfl) (by kernel_rfl) (by kernel_rfl) rfl (fun _ _ _ h => h) (Or.inl ⟨by kernel_rfl, fun w hw => y_add (l := P) (m := X) rfl rfl rfl (by have := HL.out; omega)⟩) hHeld ?_
  simp only [Act.put, List.setIfInBounds_toArray, List.set_cons_zero, List.set_cons_succ]
  refine readyD (i := 0) (d := some 122) rfl (by kernel_rfl) rfl (by kernel_rfl) fun K hK => ?_
  refine op_call rfl rfl (bytes_any hHeld.e (by have := HL.out; rw [List.length_append]; omega)) ?_
  rintro e w1 ⟨A1, c1, rfl, hown1, M1⟩
  refine ⟨_, rfl, hK _ _ (hHeld.mod_no M1) fun hHeld1 => ?_⟩
  have hrd1 := RdT.of_own hown1
  clear hK K hown1 M1 hHeld
  have hHeld := hHeld1
  clear hHeld1
  simp only [Act.put, List.setIfInBounds_toArray, List.set_cons_zero, List.set_cons_succ]
  refine readyD (i := 1) (d := some 123) rfl (by kernel_rfl) rfl (by kernel_rfl) fun K hK => ?_
  refine op_yield (y_conv rfl rfl hrd1 rfl) ?_
  refine hK _ _ hHeld (fun hHeld2 => ?_)
  clear hK K hrd1 hHeld2
  simp only [Act.put, List.setIfInBounds_toArray, List.set_cons_zero, List.set_cons_succ]
  refine takeD (i := 7) (d := some 129) (v := (.bool true)) rfl (by kernel_rfl) (by kernel_rfl) (by kernel_rfl) rfl (fun _ _ _ h => h) (Or.inl ⟨by kernel_rfl, fun w hw => y_eql (l := P ++ X) rfl rfl rfl⟩) hHeld ?_
  simp only [Act.put, List.setIfInBounds_toArray, List.set_cons_zero, List.set_cons_succ]
  refine takeD (i := 8) (d := some 130) (v := (.bool true)) rfl (by kernel_rfl) (by kernel_rfl) (by kernel_rfl) rfl (fun _ _ _ h => h) (Or.inl ⟨by kernel_rfl, fun w hw => y_move rfl rfl⟩) hHeld ?_
  simp only [Act.put, List.setIfInBounds_toArray, List.set_cons_zero, List.set_cons_succ]
  refine takeD (i := 11) (d := some 133) (v := (.slice Aa P.length ca)) rfl (by kernel_rfl) (by kernel_rfl) (by kernel_rfl) rfl (fun _ _ _ h => h) (Or.inl ⟨by kernel_rfl, fun w hw => y_move rfl rfl⟩) hHeld ?_
  simp only [Act.put, List.setIfInBounds_toArray, List.set_cons_zero, List.set_cons_succ]
  refine takeD (i := 12) (d := some 134) (v := (.string ⟨P.toArray⟩)) rfl (by kernel_rfl) (by kernel_rfl) (by kernel_rfl) rfl (fun _ _ _ h => h) (Or.inl ⟨by kernel_rfl, fun w hw => y_conv rfl rfl hw.ra rfl⟩) hHeld ?_
  simp only [Act.put, List.setIfInBounds_toArray, List.set_cons_zero, List.set_cons_succ]
  refine takeD (i := 13) (d := some 135) (v := (.slice At Y.length ct)) rfl (by kernel_rfl) (by kernel_rfl) (by kernel_rfl) rfl (fun _ _ _ h => h) (Or.inl ⟨by kernel_rfl, fun w hw => y_move rfl rfl⟩) hHeld ?_
  simp only [Act.put, List.setIfInBounds_toArray, List.set_cons_zero, List.set_cons_succ]
  refine takeD (i := 14) (d := some 136) (v := (.string ⟨Y.toArray⟩)) rfl (by kernel_rfl) (by kernel_rfl) (by kernel_rfl) rfl (fun _ _ _ h => h) (Or.inl ⟨by kernel_rfl, fun w hw => y_conv rfl rfl hw.rt rfl⟩) hHeld ?_
  simp only [Act.put, List.setIfInBounds_toArray, List.set_cons_zero, List.set_cons_succ]
  refine takeD (i := 15) (d := some 137) (v := (.string ⟨(P ++ Y).toArray⟩)) rfl (by kernel_rfl) (by kernel_rfl) (by kernel_rfl) rfl (fun _ _ _ h => h) (Or.inl ⟨by kernel_rfl, fun w hw => y_add (l := P) (m := Y) rfl rfl rfl (by have := HL.out; omega)⟩) hHeld ?_
  simp only [Act.put, List.setIfInBounds_toArray, List.set_cons_zero, List.set_cons_succ]
  refine readyD (i := 9) (d := some 131) rfl (by kernel_rfl) rfl (by kernel_rfl) fun K hK => ?_
  refine op_call rfl rfl (bytes_any hHeld.f (by have := HL.out; rw [List.length_append]; omega)) ?_
  rintro e w2 ⟨A2, c2, rfl, hown2, M2⟩
  refine ⟨_, rfl, hK _ _ (hHeld.mod_no M2) fun hHeld2 => ?_⟩
  have hrd2 := RdT.of_own hown2
  clear hK K hown2 M2 hHeld
  have hHeld := hHeld2
  clear hHeld2
  simp only [Act.put, List.setIfInBounds_toArray, List.set_cons_zero, List.set_cons_succ]
  refine readyD (i := 10) (d := some 132) rfl (by kernel_rfl) rfl (by kernel_rfl) fun K hK => ?_
  refine op_yield (y_conv rfl rfl hrd2 rfl) ?_
  refine hK _ _ hHeld (fun hHeld2 => ?_)
  clear hK K hrd2 hHeld2
  simp only [Act.put, List.setIfInBounds_toArray, List.set_cons_zero, List.set_cons_succ]
  refine takeD (i := 16) (d := some 138) (v := (.bool true)) rfl (by kernel_rfl) (by kernel_rfl) (by kernel_rfl) rfl (fun _ _ _ h => h) (Or.inl ⟨by kernel_rfl, fun w hw => y_eql (l := P ++ Y) rfl rfl rfl⟩) hHeld ?_
  simp only [Act.put, List.setIfInBounds_toArray, List.set_cons_zero, List.set_cons_succ]
  refine takeD (i := 17) (d := some 139) (v := (.bool true)) rfl (by kernel_rfl) (by kernel_rfl) (by kernel_rfl) rfl (fun _ _ _ h => h) (Or.inl ⟨by kernel_rfl, fun w hw => y_pick rfl rfl rfl⟩) hHeld ?_
  simp only [Act.put, List.setIfInBounds_toArray, List.set_cons_zero, List.set_cons_succ]
  refine takeD (i := 18) (d := some 140) (v := (.bool true)) rfl (by kernel_rfl) (by kernel_rfl) (by kernel_rfl) rfl (fun _ _ _ h => h) (Or.inl ⟨by kernel_rfl, fun w hw => y_move rfl rfl⟩) hHeld ?_
  simp only [Act.put, List.setIfInBounds_toArray, List.set_cons_zero, List.set_cons_succ]
  refine takeD (i := 19) (d := some 141) (v := (.slice Ac (P.length + Y.length) cc)) rfl (by kernel_rfl) (by kernel_rfl) (by kernel_rfl) rfl (fun _ _ _ h => h) (Or.inl ⟨by kernel_rfl, fun w hw => y_move rfl rfl⟩) hHeld ?_
  simp only [Act.put, List.setIfInBounds_toArray, List.set_cons_zero, List.set_cons_succ]
  refine takeD (i := 20) (d := some 142) (v := (.string ⟨(P ++ Y).toArray⟩)) rfl (by kernel_rfl) (by kernel_rfl) (by kernel_rfl) rfl (fun _ _ _ h => h) (Or.inl ⟨by kernel_rfl, fun w hw => y_conv rfl rfl hw.rc (by rw [List.length_append])⟩) hHeld ?_
  simp only [Act.put, List.setIfInBounds_toArray, List.set_cons_zero, List.set_cons_succ]
  refine takeD (i := 21) (d := some 143) (v := (.slice Aa P.length ca)) rfl (by kernel_rfl) (by kernel_rfl) (by kernel_rfl) rfl (fun _ _ _ h => h) (Or.inl ⟨by kernel_rfl, fun w hw => y_move rfl rfl⟩) hHeld ?_
  simp only [Act.put, List.setIfInBounds_toArray, List.set_cons_zero, List.set_cons_succ]
  refine takeD (i := 22) (d := some 144) (v := (.string ⟨P.toArray⟩)) rfl (by kernel_rfl) (by kernel_rfl) (by kernel_rfl) rfl (fun _ _ _ h => h) (Or.inl ⟨by kernel_rfl, fun w hw => y_conv rfl rfl hw.ra rfl⟩) hHeld ?_
  simp only [Act.put, List.setIfInBounds_toArray, List.set_cons_zero, List.set_cons_succ]
  refine takeD (i := 23) (d := some 145) (v := (.slice At Y.length ct)) rfl (by kernel_rfl) (by kernel_rfl) (by kernel_rfl) rfl (fun _ _ _ h => h) (Or.inl ⟨by kernel_rfl, fun w hw => y_move rfl rfl⟩) hHeld ?_
  simp only [Act.put, List.setIfInBounds_toArray, List.set_cons_zero, List.set_cons_succ]
  refine takeD (i := 24) (d := some 146) (v := (.string ⟨Y.toArray⟩)) rfl (by kernel_rfl) (by kernel_rfl) (by kernel_rfl) rfl (fun _ _ _ h => h) (Or.inl ⟨by kernel_rfl, fun w hw => y_conv rfl rfl hw.rt rfl⟩) hHeld ?_
  simp only [Act.put, List.setIfInBounds_toArray, List.set_cons_zero, List.set_cons_succ]
  refine takeD (i := 25) (d := some 147) (v := (.string ⟨(P ++ Y).toArray⟩)) rfl (by kernel_rfl) (by kernel_rfl) (by kernel_rfl) rfl (fun _ _ _ h => h) (Or.inl ⟨by kernel_rfl, fun w hw => y_add (l := P) (m := Y) rfl rfl rfl (by have := HL.out; omega)⟩) hHeld ?_
  simp only [Act.put, List.setIfInBounds_toArray, List.set_cons_zero, List.set_cons_succ]
  refine takeD (i := 26) (d := some 148) (v := (.bool true)) rfl (by kernel_rfl) (by kernel_rfl) (by kernel_rfl) rfl (fun _ _ _ h => h) (Or.inl ⟨by kernel_rfl, fun w hw => y_eql (l := P ++ Y) rfl rfl rfl⟩) hHeld ?_
  simp only [Act.put, List.setIfInBounds_toArray, List.set_cons_zero, List.set_cons_succ]
  refine takeD (i := 27) (d := some 149) (v := (.bool true)) rfl (by kernel_rfl) (by kernel_rfl) (by kernel_rfl) rfl (fun _ _ _ h => h) (Or.inl ⟨by kernel_rfl, fun w hw => y_pick rfl rfl rfl⟩) hHeld ?_
  simp only [Act.put, List.setIfInBounds_toArray, List.set_cons_zero, List.set_cons_succ]
  refine takeD (i := 28) (d := some 6) (v := (.bool true)) rfl (by kernel_rfl) (by kernel_rfl) (by kernel_rfl) rfl (fun _ _ _ h => h) (Or.inl ⟨by kernel_rfl, fun w hw => y_assign rfl rfl⟩) hHeld ?_
  simp only [Act.put, List.setIfInBounds_toArray, List.set_cons_zero, List.set_cons_succ]
  refine wpAnyH_done (by kernel_rfl) ?_ _
  show Code.wp Try.prog (sR t3C) Q _ _
  conv => arg 2; whnf
  go_wp2_with fail
  exact HLE.out _ _ _ _ _ _ _ _ _ _ _ _ _ _ _ _ _ _ _ _ _ _ _ _ _ _ _ _ _ _ rfl hHeld.old

end Go.Proofs.Ytpfkcejndjnbhaa.AP
