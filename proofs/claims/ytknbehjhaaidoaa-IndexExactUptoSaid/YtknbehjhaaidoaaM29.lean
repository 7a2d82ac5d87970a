/- IndexExact: the texts ExH of this seat, one behind the other. -/
import Derived.Test.YtknbehjhaaidoaaM28
/- IndexExact: what a step does once its two indexes are taken. -/
namespace Go.Proofs.Ytknbehjhaaidoaa.IX
open Go.RowKit Go.Shelf Mem HD TB
set_option linter.unusedVariables false
set_option linter.unusedSimpArgs false
def bL : Code → Code | .block _ c => c | c => c
def lL : Code → Code | .loop c => c | c => c
noncomputable def exB : Code := Try.f6.body.getD .skip
noncomputable def ex6 : Code := sR (sR (sR (sR (sR exB))))
noncomputable def ex21 : Code := sR ex6
noncomputable def ex26 : Code := sR ex21
noncomputable def ex32 : Code := sR ex26
/-- A round's code from region 17 on. -/
noncomputable def ex17 : Code := sR (sR (sR (sR (sR (bL (sL (sR (lL (bL (sR (sL ex6)))))))))))
theorem op_kpapp {a : Act} {o : Oper} {w : World} {K : Act → World → Prop} {Q : Exit → Act → World → Prop} {s q : Operand} (ho : o.op = .call { callee := .builtin .append, args := #[s, q], argTypes := #[71, 71] }) {base b : Nat} {v : Value} {l : List Kp} {x : Kp} (hs : a.eval s = v) (hq : a.eval q = .slice (some ⟨b, 0, none⟩) 1 1)
    (hown : KpRow w base v l) (hb : Blk w b 81 (kpL x).toArray) (hn : l.length ≤ 17179869184) (hbase : base ≤ w.heap.size)
    (h : ∀ v' w', KpRow w' base v' (l ++ [x]) → w.grownBy w' v.ownBlock → (v'.ownBlock = v.ownBlock ∨ v'.ownBlock = some w.heap.size) → K (a.put o.dst v') w') : Oper.wp Try.prog o a w K Q := by
  obtain ⟨v', w', hrun, h1, h2, h3⟩ := kp_append w o.type hown hb hn hbase
  exact op_yield (y_kvapp ho hs hq hrun) (h v' w' h1 h2 h3)
section
variable {w W W' : World} {hp hr B : Nat} {O : Nat → Nat → Prop} {g r : Nat → Nat} {v : Nat → Value} {l : Nat → List (Key × Ent)} {Z : Nat → Prop} {kv : Value} {ks : List Kp} {n m : Nat}
theorem EX.bl (h : EX w hp hr B O g r v l Z kv ks n m W) : B ≤ W.heap.size := h.hb
theorem Chg.mod0 {w W : World} {p rr : Value} {non : Bool} {Fin : World → Prop} (h : Chg w p rr non Fin) (m : Mod no w W) : Chg W p rr non Fin := by
  have hs := m.size
  have hw : ∀ {W1 W2 : World}, Mod (fun x => x < w.heap.size) W1 W2 → Mod (fun x => x < W.heap.size) W1 W2 := fun q => q.mono fun x _ c => Nat.lt_of_lt_of_le c hs
  refine ⟨fun W' k e q => ?_, fun W' k e q => ?_, fun W' k s u s' u' q => ?_, fun W' k q => ?_, fun W' q => h.fin W' (m.and_then q), h.fin'⟩
  · refine (h.put W' k e (m.and_then q)).mono ?_
    rintro en W1 ⟨b, a1, a2, a3, a4⟩
    exact ⟨b, a1, hw a2, a3, fun e W2 m2 => (a4 e W2 m2).mono fun en W3 ⟨b1, b2, b3⟩ => ⟨b1, b2, hw b3⟩⟩
  · refine (h.mark W' k e (m.and_then q)).mono ?_
    rintro en W1 ⟨b, a1, a2, a4⟩
    exact ⟨b, a1, hw a2, fun W2 m2 => (a4 W2 m2).mono fun en W3 ⟨b1, b2, b3⟩ => ⟨b1, b2, hw b3⟩⟩
  · refine (h.move W' k s u s' u' (m.and_then q)).mono ?_
    rintro en W1 ⟨b, a1, a2, a4⟩
    exact ⟨b, a1, hw a2, fun W2 m2 => (a4 W2 m2).mono fun en W3 ⟨b1, b2, b3⟩ => ⟨b1, b2, hw b3⟩⟩
  · refine (h.del W' k (m.and_then q)).mono ?_
    rintro en W1 ⟨b, a1, a2, a4⟩
    exact ⟨b, a1, hw a2, fun W2 m2 => (a4 W2 m2).mono fun en W3 ⟨b1, b2, b3⟩ => ⟨b1, b2, hw b3⟩⟩
/-- The index and the document's index of a step: those of a side, or a nil one and a new one. -/
def Sel (W : World) (g r : Nat → Nat) (v : Nat → Value) (l : Nat → List (Key × Ent)) (kv pa : Value) (rb : Nat) (vb : Value) (lb : List (Key × Ent)) (non : Bool) : Prop :=
  (∃ i, i < 2 ∧ pa = .pointer (some ⟨g i, 0, none⟩) ∧ rb = r i ∧ vb = v i ∧ lb = l i ∧ non = false) ∨
  (pa = .pointer none ∧ RAt W rb (.slice none 0 0) [] ∧ vb = .slice none 0 0 ∧ lb = [] ∧ non = true ∧ kv.ownBlock ≠ some rb)
variable {pa vb : Value} {rb : Nat} {lb : List (Key × Ent)} {non : Bool}
theorem Sel.qs (h : Sel W g r v l kv pa rb vb lb non) (hE : EX w hp hr B O g r v l Z kv ks n m W) (hn : n ≤ 1048576) : Qs W pa lb := by
  rcases h with ⟨i, hi, rfl, rfl, rfl, rfl, rfl⟩ | ⟨rfl, h1, rfl, rfl, rfl, h2⟩
  · exact (hE.sd i hi).qs (by have := hE.ln i hi; omega)
  · exact qs_nil W
theorem Sel.rr (h : Sel W g r v l kv pa rb vb lb non) (hE : EX w hp hr B O g r v l Z kv ks n m W) : RAt W rb vb lb := by
  rcases h with ⟨i, hi, rfl, rfl, rfl, rfl, rfl⟩ | ⟨rfl, h1, rfl, rfl, rfl, h2⟩
  · exact (hE.sd i hi).rr
  · exact h1
theorem Sel.nk (h : Sel W g r v l kv pa rb vb lb non) (hE : EX w hp hr B O g r v l Z kv ks n m W) : NK lb := by
  rcases h with ⟨i, hi, rfl, rfl, rfl, rfl, rfl⟩ | ⟨rfl, h1, rfl, rfl, rfl, h2⟩
  · exact (hE.sd i hi).so.nk
  · exact List.nodup_nil
theorem Sel.len (h : Sel W g r v l kv pa rb vb lb non) (hE : EX w hp hr B O g r v l Z kv ks n m W) : lb.length ≤ n := by
  rcases h with ⟨i, hi, rfl, rfl, rfl, rfl, rfl⟩ | ⟨rfl, h1, rfl, rfl, rfl, h2⟩
  · exact hE.ln i hi
  · exact Nat.zero_le _
theorem Sel.vz (h : Sel W g r v l kv pa rb vb lb non) (hE : EX w hp hr B O g r v l Z kv ks n m W) : ∀ b, vb.ownBlock = some b → Z b := by
  rcases h with ⟨i, hi, rfl, rfl, rfl, rfl, rfl⟩ | ⟨rfl, h1, rfl, rfl, rfl, h2⟩
  · exact hE.zv i hi
  · exact fun b hb => by cases hb
theorem Sel.rk (h : Sel W g r v l kv pa rb vb lb non) (hE : EX w hp hr B O g r v l Z kv ks n m W) : kv.ownBlock ≠ some rb := by
  rcases h with ⟨i, hi, rfl, rfl, rfl, rfl, rfl⟩ | ⟨rfl, h1, rfl, rfl, rfl, h2⟩
  · exact (hE.oh i _ hi (hE.sd i hi).ro).2.2.2
  · exact h2
theorem Sel.chg (h : Sel W g r v l kv pa rb vb lb non) (hE : EX w hp hr B O g r v l Z kv ks n m W) (hn : n ≤ 1048576) : ∃ Fin, Chg W pa (.pointer (some ⟨rb, 0, none⟩)) non Fin ∧ ∀ W', Fin W' → ∃ O' v' l' Z', EX w hp hr B O' g r v' l' Z' kv ks (n + 1) m W' := by
  rcases h with ⟨i, hi, rfl, rfl, rfl, rfl, rfl⟩ | ⟨rfl, h1, rfl, rfl, rfl, h2⟩
  · exact ⟨_, (hE.sd i hi).chg (by have := hE.ln i hi; omega), fun W' hf => hE.went hi hf⟩
  · exact ⟨_, chg_nil h1, fun W' hf => ⟨O, v, l, Z, (hE.mod0 hf).up (Nat.le_succ _) (Nat.le_refl _)⟩⟩
/-- Behind a change that leaves the step's own blocks be. -/
theorem Sel.mods {S : Nat → Prop} {kv' : Value} (h : Sel W g r v l kv pa rb vb lb non) (md : Mod S W W') (hr : ¬ S rb) (hk : kv.ownBlock ≠ some rb → kv'.ownBlock ≠ some rb) : Sel W' g r v l kv' pa rb vb lb non := by
  rcases h with h | ⟨a1, a2, a3, a4, a5, a6⟩
  · exact .inl h
  · exact .inr ⟨a1, a2.mod md hr (fun b hb => by cases hb), a3, a4, a5, hk a6⟩
end
set_option maxRecDepth 100000 in
set_option maxHeartbeats 20000000 in
theorem tail_any {w W : World} {hp hr B h7 : Nat} {O : Nat → Nat → Prop} {g r : Nat → Nat} {v : Nat → Value} {l : Nat → List (Key × Ent)} {Z : Nat → Prop} {kv pa vb : Value} {rb : Nat} {lb : List (Key × Ent)} {ks : List Kp} {n m : Nat} {s : Stp} {u0 u1 u2 u8 u11 u12 u13 u14 u15 u16 u17 u18 u19 u20 u21 u22 u23 u24 u25 u26 u27 u28 u29 u30 u31 u32 u33 u34 u35 u36 u37 u38 u39 u40 u41 u42 u43 u44 u45 u46 u47 u48 u49 u50 u51 u52 u53 u54 u55 u56 u57 u58 u59 u60 u61 u62 u63 u64 u65 u66 u67 u68 u69 u70 u71 u72 u73 u74 u75 u76 u77 u78 u79 u80 u81 u82 u83 u84 u85 u86 u87 u88 u89 u90 u91 u92 u93 u94 u95 u96 u97 u98 u99 u100 u101 u102 u103 u104 u105 u106 u107 u108 u109 u110 u111 u112 u113 u114 u115 u116 u117 u118 u119 u120 u121 u122 u123 u124 u125 u126 u127 u128 u129 u130 u131 u132 : Value} {Q : Exit → Act → World → Prop}
    (hE : EX w hp hr B O g r v l Z kv ks n m W) (hS : Sel W g r v l kv pa rb vb lb s.none_) (hb : Blk W h7 73 s.L.toArray) (hk : kv.ownBlock ≠ some h7) (hn : n ≤ 1048576) (hm : m ≤ 1048576) (hP : ∀ (d : Option Tmp) (u : Value) c (a : Act) (w : World), Q (.panic c) (a.put d u) w → Q (.panic c) a w)
    (hQ : ∀ O' v' l' Z' kv' ks' (x64 x65 x66 x67 x68 x69 x70 x71 x72 x73 x74 x75 x76 x77 x78 x79 x80 x81 x82 x83 x84 x85 x86 x87 x88 : Value) W', EX w hp hr B O' g r v' l' Z' kv' ks' (n + 1) (m + 1) W' → Q .normal ⟨List.toArray (u0::u1::u2::(.pointer (some ⟨hp, 0, none⟩))::(.pointer (some ⟨hr, 0, none⟩))::(kv')::(.int .i64 (n : Int))::(.pointer (some ⟨h7, 0, none⟩))::u8::(pa)::(.pointer (some ⟨rb, 0, none⟩))::u11::u12::u13::u14::u15::u16::u17::u18::u19::u20::u21::u22::u23::u24::u25::u26::u27::u28::u29::u30::u31::u32::u33::u34::u35::u36::u37::u38::u39::u40::u41::u42::u43::u44::u45::u46::u47::u48::u49::u50::u51::u52::u53::u54::u55::u56::u57::u58::u59::u60::u61::u62::u63::(x64)::(x65)::(x66)::(x67)::(x68)::(x69)::(x70)::(x71)::(x72)::(x73)::(x74)::(x75)::(x76)::(x77)::(x78)::(x79)::(x80)::(x81)::(x82)::(x83)::(x84)::(x85)::(x86)::(x87)::(x88)::u89::u90::u91::u92::u93::u94::u95::u96::u97::u98::u99::u100::u101::u102::u103::u104::u105::u106::u107::u108::u109::u110::u111::u112::u113::u114::u115::u116::u117::u118::u119::u120::u121::u122::u123::u124::u125::u126::u127::u128::u129::u130::u131::u132::[]), []⟩ W') :
    Code.wp Try.prog ex17 Q ⟨List.toArray (u0::u1::u2::(.pointer (some ⟨hp, 0, none⟩))::(.pointer (some ⟨hr, 0, none⟩))::(kv)::(.int .i64 (n : Int))::(.pointer (some ⟨h7, 0, none⟩))::u8::(pa)::(.pointer (some ⟨rb, 0, none⟩))::u11::u12::u13::u14::u15::u16::u17::u18::u19::u20::u21::u22::u23::u24::u25::u26::u27::u28::u29::u30::u31::u32::u33::u34::u35::u36::u37::u38::u39::u40::u41::u42::u43::u44::u45::u46::u47::u48::u49::u50::u51::u52::u53::u54::u55::u56::u57::u58::u59::u60::u61::u62::u63::u64::u65::u66::u67::u68::u69::u70::u71::u72::u73::u74::u75::u76::u77::u78::u79::u80::u81::u82::u83::u84::u85::u86::u87::u88::u89::u90::u91::u92::u93::u94::u95::u96::u97::u98::u99::u100::u101::u102::u103::u104::u105::u106::u107::u108::u109::u110::u111::u112::u113::u114::u115::u116::u117::u118::u119::u120::u121::u122::u123::u124::u125::u126::u127::u128::u129::u130::u131::u132::[]), []⟩ W := by
  have HE := Lib.hid (And.intro hE (And.intro hS (And.intro hb (And.intro hk (And.intro hn hm)))))
  have HQ := Lib.hid hQ
  have HP := Lib.hid hP
  clear hE hS hb hk hn hm hQ hP
  conv => arg 2; whnf
  by_cases he : s.kind = 11
  · have d1 : decide (s.kind = 11) = true := decide_eq_true he
    clear he
    go_upto_region 17 with fail
    refine HD.wl_begin ?_
    refine HD.wl_takeF (d := some 64) (v := (.pointer (some ⟨h7, 0, none⟩))) (by kernel_rfl) rfl rfl (y_fst (k := 0) (by decide) rfl (by kernel_rfl)) ?_
    refine HD.wl_takeF (d := some 65) (v := (.int .i64 s.kind)) (by kernel_rfl) rfl rfl (y_int rfl (by kernel_rfl) (stAt (blk_range HE.out.2.2.1)).kind) ?_
    refine HD.wl_takeF (d := some 66) (v := (.bool true)) (by kernel_rfl) rfl rfl (y_eqi (n := 11) d1 rfl (by kernel_rfl) (by kernel_rfl)) ?_
    refine HD.wl_norm (a' := ⟨List.toArray (u0::u1::u2::(.pointer (some ⟨hp, 0, none⟩))::(.pointer (some ⟨hr, 0, none⟩))::(kv)::(.int .i64 (n : Int))::(.pointer (some ⟨h7, 0, none⟩))::u8::(pa)::(.pointer (some ⟨rb, 0, none⟩))::u11::u12::u13::u14::u15::u16::u17::u18::u19::u20::u21::u22::u23::u24::u25::u26::u27::u28::u29::u30::u31::u32::u33::u34::u35::u36::u37::u38::u39::u40::u41::u42::u43::u44::u45::u46::u47::u48::u49::u50::u51::u52::u53::u54::u55::u56::u57::u58::u59::u60::u61::u62::u63::(.pointer (some ⟨h7, 0, none⟩))::(.int .i64 s.kind)::(.bool true)::u67::u68::u69::u70::u71::u72::u73::u74::u75::u76::u77::u78::u79::u80::u81::u82::u83::u84::u85::u86::u87::u88::u89::u90::u91::u92::u93::u94::u95::u96::u97::u98::u99::u100::u101::u102::u103::u104::u105::u106::u107::u108::u109::u110::u111::u112::u113::u114::u115::u116::u117::u118::u119::u120::u121::u122::u123::u124::u125::u126::u127::u128::u129::u130::u131::u132::[]), []⟩) (by kernel_rfl) ?_
    refine HD.wl_done ?_
    obtain ⟨A, c, hvb, _⟩ := (HE.out.2.1.rr HE.out.1).2
    subst hvb
    go_upto_region 18 with fail
    refine wp_region_held_drew (S := fun w9 => Blk w9 rb 79 #[.slice A lb.length c]) (by kernel_rfl) (HE.out.2.1.rr HE.out.1).1.drew (fun hHeld => HD.WA.out ?_)
    refine HD.wa_take (i := 0) (d := some 67) (v := (kv)) rfl (by kernel_rfl) (by kernel_rfl) (by kernel_rfl) rfl (fun c a w h => HP.out _ _ c a w h) (Or.inl ⟨by kernel_rfl, fun w9 hw => y_move rfl (by kernel_rfl)⟩) hHeld rfl ?_
    refine HD.wa_take (i := 1) (d := some 68) (v := (pa)) rfl (by kernel_rfl) (by kernel_rfl) (by kernel_rfl) rfl (fun c a w h => HP.out _ _ c a w h) (Or.inl ⟨by kernel_rfl, fun w9 hw => y_move rfl (by kernel_rfl)⟩) hHeld rfl ?_
    refine HD.wa_take (i := 3) (d := some 70) (v := (.pointer (some ⟨rb, 0, none⟩))) rfl (by kernel_rfl) (by kernel_rfl) (by kernel_rfl) rfl (fun c a w h => HP.out _ _ c a w h) (Or.inl ⟨by kernel_rfl, fun w9 hw => y_move rfl (by kernel_rfl)⟩) hHeld rfl ?_
    refine HD.wa_take (i := 4) (d := some 71) (v := (.pointer (some ⟨rb, 0, none⟩))) rfl (by kernel_rfl) (by kernel_rfl) (by kernel_rfl) rfl (fun c a w h => HP.out _ _ c a w h) (Or.inl ⟨by kernel_rfl, fun w9 hw => y_nil rfl (by kernel_rfl)⟩) hHeld rfl ?_
    refine HD.wa_take (i := 5) (d := some 72) (v := (.pointer (some ⟨rb, 0, none⟩))) rfl (by kernel_rfl) (by kernel_rfl) (by kernel_rfl) rfl (fun c a w h => HP.out _ _ c a w h) (Or.inl ⟨by kernel_rfl, fun w9 hw => y_fri rfl (by kernel_rfl)⟩) hHeld rfl ?_
    refine HD.wa_take (i := 6) (d := some 73) (v := (.slice A lb.length c)) rfl (by kernel_rfl) (by kernel_rfl) (by kernel_rfl) rfl (fun c a w h => HP.out _ _ c a w h) (Or.inl ⟨by kernel_rfl, fun w9 hw => y_ldkv rfl (by kernel_rfl) (hw.cell 0)⟩) hHeld rfl ?_
    refine HD.wa_callG _ (i := 2) (d := some 69) rfl (by kernel_rfl) rfl (by kernel_rfl) (fun _ => rfl) fun K hK => ?_
    refine op_c1 (fun _ _ => rfl) rfl (by kernel_rfl) ((HE.out.2.1.qs HE.out.1 HE.out.2.2.2.2.1).all _ (Mod.refl no W).drew) ?_
    rintro e w3 ⟨hL, u, rfl, hge, hbL, hrow, hm3⟩
    have md3 : Mod no W w3 := ((Mod.refl no W).drew).and_then hm3
    have hkp : KpAt w3 (⟨hL, u, A, c, lb⟩ : Kp) := ⟨hbL, hrow, ((HE.out.2.1.rr HE.out.1).2.mod md3 (fun _ _ c => c)), by have := HE.out.2.1.len HE.out.1; have := HE.out.2.2.2.2.1; show lb.length ≤ _; omega⟩
    have hex : EX w hp hr B O g r v l (fun x => Z x ∨ (W.heap.size ≤ x ∧ x < w3.heap.size)) kv ks n m w3 := (HE.out.1.mod0 md3).zadd fun x hx => HE.out.1.fresh md3 hx.1 hx.2
    have H3 := Lib.hid (And.intro hex (And.intro hkp (And.intro (show W.heap.size ≤ hL from hge) (And.intro hbL (And.intro hrow md3)))))
    clear hkp hex hge hbL hrow md3
    refine ⟨_, rfl, hK _ _ (hHeld.mod hm3 (fun c => c)) fun hHeld9 => ?_⟩
    clear hK K hHeld
    have hHeld := hHeld9
    clear hHeld9
    clear hm3
    refine HD.wa_take (i := 7) (d := some 74) (v := (.agg (kpL (⟨hL, u, A, c, lb⟩ : Kp)).toArray)) rfl (by kernel_rfl) (by kernel_rfl) (by kernel_rfl) rfl (fun c a w h => HP.out _ _ c a w h) (Or.inl ⟨by kernel_rfl, fun w9 hw => y_kept rfl (by kernel_rfl) (by kernel_rfl)⟩) hHeld rfl ?_
    obtain ⟨h8, hh8⟩ : ∃ h8, h8 = w3.heap.size := ⟨_, rfl⟩
    refine HD.wa_callG _ (i := 8) (d := some 75) rfl (by kernel_rfl) rfl (by kernel_rfl) (fun _ => rfl) fun K hK => ?_
    refine op_yield (by exact y_kpslice (x := (⟨hL, u, A, c, lb⟩ : Kp)) rfl (by kernel_rfl)) ?_
    rw [← hh8]
    obtain ⟨w4, hw4⟩ : ∃ w4, w4 = w3.alloc (.cells (kpL (⟨hL, u, A, c, lb⟩ : Kp)).toArray 81) := ⟨_, rfl⟩
    rw [← hw4]
    have md4 : Mod no w3 w4 := by rw [hw4]; exact (Mod.refl no w3).alloc _
    have hb4 : Blk w4 h8 81 (kpL (⟨hL, u, A, c, lb⟩ : Kp)).toArray := by rw [hw4, hh8]; exact Blk.new _ _ _
    have H4 := Lib.hid (And.intro md4 hb4)
    clear hb4 hw4 hh8
    refine hK _ _ (hHeld.mod md4 (fun c => c)) fun hHeld9 => ?_
    clear hK K hHeld
    have hHeld := hHeld9
    clear hHeld9
    clear md4
    refine HD.wa_callG _ (i := 9) (d := some 76) rfl (by kernel_rfl) rfl (by kernel_rfl) (fun _ => rfl) fun K hK => ?_
    refine op_kpapp (base := B) (b := h8) (l := ks) (x := (⟨hL, u, A, c, lb⟩ : Kp)) rfl (by kernel_rfl) (by kernel_rfl) (H3.out.1.mod0 H4.out.1).kr H4.out.2 (by have := H3.out.1.kn; have := HE.out.2.2.2.2.2; omega) (by have := (H3.out.1.mod0 H4.out.1).bl; exact this) ?_
    intro kv' w5 h1 h2 h3
    have hZ : ∀ b, ((⟨hL, u, A, c, lb⟩ : Kp) : Kp).v.ownBlock = some b → Z b := fun b hb => HE.out.2.1.vz HE.out.1 b hb
    have hex := (H3.out.1.mod0 H4.out.1).keep (H3.out.2.1.mod H4.out.1 (fun c => c) (fun _ _ c => c) (fun _ _ c => c)) (.inr ⟨H3.out.2.2.1, H3.out.2.2.2.1.lt⟩) (fun b hb => .inr (by obtain ⟨h5, cur, h6⟩ := H3.out.2.2.2.2.1.own hb; exact ⟨Nat.le_trans H3.out.2.2.1 (Nat.le_of_succ_le h5), h6.lt⟩)) (fun b hb => .inl (hZ b hb)) h1 h2 h3
    have mdr : Mod (fun x => kv.ownBlock = some x) w4 w5 := Mod.of_grown h2 fun x _ e => e
    have hrk := HE.out.2.1.rk HE.out.1
    have hsz3 := H3.out.2.2.2.2.2.size
    have hsz4 := H4.out.1.size
    have hrl := (HE.out.2.1.rr HE.out.1).1.lt
    have h7l := HE.out.2.2.1.lt
    have hnk : ∀ x, x < w4.heap.size → kv.ownBlock ≠ some x → kv'.ownBlock ≠ some x := fun x hx c e => by
      rcases h3 with q | q
      · rw [q] at e; exact c e
      · rw [q] at e; injection e with e; omega
    have hsel := (((HE.out.2.1.mods H3.out.2.2.2.2.2 (fun c => c) (fun c => c)).mods H4.out.1 (fun c => c) (fun c => c)).mods mdr (fun c => hrk c) (hnk rb (by omega)))
    have H6 := Lib.hid (And.intro hex (And.intro hsel (And.intro (((HE.out.2.2.1.mod H3.out.2.2.2.2.2 (fun c => c)).mod H4.out.1 (fun c => c)).mod mdr (fun c => HE.out.2.2.2.1 c)) (hnk h7 (by omega) HE.out.2.2.2.1))))
    refine hK _ _ (hHeld.mod mdr (fun c => hrk c)) fun hHeld9 => ?_
    clear hK K hHeld
    have hHeld := hHeld9
    clear hHeld9
    clear h1 h2 h3 hZ hex mdr hrk hsz3 hsz4 hrl h7l hnk hsel
    refine HD.wa_take (i := 10) (d := some 5) (v := (kv')) rfl (by kernel_rfl) (by kernel_rfl) (by kernel_rfl) rfl (fun c a w h => HP.out _ _ c a w h) (Or.inl ⟨by kernel_rfl, fun w9 hw => y_assign rfl (by kernel_rfl)⟩) hHeld rfl ?_
    refine HD.wa_norm (a' := ⟨List.toArray (u0::u1::u2::(.pointer (some ⟨hp, 0, none⟩))::(.pointer (some ⟨hr, 0, none⟩))::(kv')::(.int .i64 (n : Int))::(.pointer (some ⟨h7, 0, none⟩))::u8::(pa)::(.pointer (some ⟨rb, 0, none⟩))::u11::u12::u13::u14::u15::u16::u17::u18::u19::u20::u21::u22::u23::u24::u25::u26::u27::u28::u29::u30::u31::u32::u33::u34::u35::u36::u37::u38::u39::u40::u41::u42::u43::u44::u45::u46::u47::u48::u49::u50::u51::u52::u53::u54::u55::u56::u57::u58::u59::u60::u61::u62::u63::(.pointer (some ⟨h7, 0, none⟩))::(.int .i64 s.kind)::(.bool true)::(kv)::(pa)::(.func (.func 62) #[] #[.pointer (some ⟨hL, 0, none⟩)])::(.pointer (some ⟨rb, 0, none⟩))::(.pointer (some ⟨rb, 0, none⟩))::(.pointer (some ⟨rb, 0, none⟩))::(.slice A lb.length c)::(.agg (kpL (⟨hL, u, A, c, lb⟩ : Kp)).toArray)::(.slice (some ⟨h8, 0, none⟩) 1 1)::(kv')::u77::u78::u79::u80::u81::u82::u83::u84::u85::u86::u87::u88::u89::u90::u91::u92::u93::u94::u95::u96::u97::u98::u99::u100::u101::u102::u103::u104::u105::u106::u107::u108::u109::u110::u111::u112::u113::u114::u115::u116::u117::u118::u119::u120::u121::u122::u123::u124::u125::u126::u127::u128::u129::u130::u131::u132::[]), []⟩) (by kernel_rfl) ?_
    refine HD.wa_done (by kernel_rfl) ?_
    obtain ⟨Fin, hc, hf⟩ := H6.out.2.1.chg H6.out.1 HE.out.2.2.2.2.1
    have HC := Lib.hid (And.intro hc hf)
    clear hc hf
    go_upto_region 19 with fail
    refine HD.wl_begin ?_
    refine HD.wl_takeF (d := some 77) (v := (pa)) (by kernel_rfl) rfl rfl (y_move rfl (by kernel_rfl)) ?_
    refine HD.wl_takeF (d := some 78) (v := (.pointer (some ⟨rb, 0, none⟩))) (by kernel_rfl) rfl rfl (y_move rfl (by kernel_rfl)) ?_
    refine HD.wl_takeF (d := some 79) (v := (.agg s.L.toArray)) (by kernel_rfl) rfl rfl (y_step rfl (by kernel_rfl) (blk_range H6.out.2.2.1)) ?_
    refine HD.wl_callF (d := some 80) (v := (.bool true)) (by kernel_rfl) rfl rfl fun K hK => ?_
    refine op_c3 (fun _ _ => rfl) rfl (by kernel_rfl) (by kernel_rfl) (by kernel_rfl) (asks_any (H6.out.2.1.qs H6.out.1 HE.out.2.2.2.2.1) (H6.out.2.1.rr H6.out.1) (fun b hb => (H6.out.1.zo b (H6.out.2.1.vz H6.out.1 b hb)).2.2.2.2) (H6.out.2.1.nk H6.out.1) (Nat.le_trans (H6.out.2.1.len H6.out.1) HE.out.2.2.2.2.1) s) ?_
    rintro e w8 ⟨rfl, hm8⟩
    have H8 := Lib.hid hm8
    clear hm8
    refine ⟨_, rfl, hK _ ?_⟩
    clear hK K
    refine HD.wl_takeF (d := some 81) (v := (.bool false)) (by kernel_rfl) rfl rfl (y_not (b := true) rfl (by kernel_rfl)) ?_
    refine HD.wl_takeF (d := some 82) (v := (.bool false)) (by kernel_rfl) rfl rfl (y_move rfl (by kernel_rfl)) ?_
    refine HD.wl_takeF (d := some 83) (v := (pa)) (by kernel_rfl) rfl rfl (y_move rfl (by kernel_rfl)) ?_
    refine HD.wl_takeF (d := some 84) (v := (.pointer (some ⟨rb, 0, none⟩))) (by kernel_rfl) rfl rfl (y_move rfl (by kernel_rfl)) ?_
    refine HD.wl_takeF (d := some 85) (v := (.agg s.L.toArray)) (by kernel_rfl) rfl rfl (y_step rfl (by kernel_rfl) (blk_range (H6.out.2.2.1.mod H8.out (fun c => c)))) ?_
    refine HD.wl_callF (d := some 86) (v := (.bool true)) (by kernel_rfl) rfl rfl fun K hK => ?_
    refine op_c3 (fun _ _ => rfl) rfl (by kernel_rfl) (by kernel_rfl) (by kernel_rfl) (changes_any s (HC.out.1.mod0 H8.out) rfl) ?_
    rintro e w9 ⟨rfl, hf9⟩
    have H9 := Lib.hid hf9
    clear hf9
    refine ⟨_, rfl, hK _ ?_⟩
    clear hK K
    refine HD.wl_takeF (d := some 87) (v := (.bool false)) (by kernel_rfl) rfl rfl (y_not (b := true) rfl (by kernel_rfl)) ?_
    refine HD.wl_takeF (d := some 88) (v := (.bool false)) (by kernel_rfl) rfl rfl (y_pick (b := false) rfl (by kernel_rfl) (by kernel_rfl)) ?_
    refine HD.wl_norm (a' := ⟨List.toArray (u0::u1::u2::(.pointer (some ⟨hp, 0, none⟩))::(.pointer (some ⟨hr, 0, none⟩))::(kv')::(.int .i64 (n : Int))::(.pointer (some ⟨h7, 0, none⟩))::u8::(pa)::(.pointer (some ⟨rb, 0, none⟩))::u11::u12::u13::u14::u15::u16::u17::u18::u19::u20::u21::u22::u23::u24::u25::u26::u27::u28::u29::u30::u31::u32::u33::u34::u35::u36::u37::u38::u39::u40::u41::u42::u43::u44::u45::u46::u47::u48::u49::u50::u51::u52::u53::u54::u55::u56::u57::u58::u59::u60::u61::u62::u63::(.pointer (some ⟨h7, 0, none⟩))::(.int .i64 s.kind)::(.bool true)::(kv)::(pa)::(.func (.func 62) #[] #[.pointer (some ⟨hL, 0, none⟩)])::(.pointer (some ⟨rb, 0, none⟩))::(.pointer (some ⟨rb, 0, none⟩))::(.pointer (some ⟨rb, 0, none⟩))::(.slice A lb.length c)::(.agg (kpL (⟨hL, u, A, c, lb⟩ : Kp)).toArray)::(.slice (some ⟨h8, 0, none⟩) 1 1)::(kv')::(pa)::(.pointer (some ⟨rb, 0, none⟩))::(.agg s.L.toArray)::(.bool true)::(.bool false)::(.bool false)::(pa)::(.pointer (some ⟨rb, 0, none⟩))::(.agg s.L.toArray)::(.bool true)::(.bool false)::(.bool false)::u89::u90::u91::u92::u93::u94::u95::u96::u97::u98::u99::u100::u101::u102::u103::u104::u105::u106::u107::u108::u109::u110::u111::u112::u113::u114::u115::u116::u117::u118::u119::u120::u121::u122::u123::u124::u125::u126::u127::u128::u129::u130::u131::u132::[]), []⟩) (by kernel_rfl) ?_
    refine HD.wl_done ?_
    go_wp2_with fail
    obtain ⟨O', v', l', Z', h9⟩ := HC.out.2 _ H9.out
    exact HQ.out O' v' l' Z' _ _ _ _ _ _ _ _ _ _ _ _ _ _ _ _ _ _ _ _ _ _ _ _ _ _ _ _ h9
  · have d1 : decide (s.kind = 11) = false := decide_eq_false he
    clear he
    go_upto_region 17 with fail
    refine HD.wl_begin ?_
    refine HD.wl_takeF (d := some 64) (v := (.pointer (some ⟨h7, 0, none⟩))) (by kernel_rfl) rfl rfl (y_fst (k := 0) (by decide) rfl (by kernel_rfl)) ?_
    refine HD.wl_takeF (d := some 65) (v := (.int .i64 s.kind)) (by kernel_rfl) rfl rfl (y_int rfl (by kernel_rfl) (stAt (blk_range HE.out.2.2.1)).kind) ?_
    refine HD.wl_takeF (d := some 66) (v := (.bool false)) (by kernel_rfl) rfl rfl (y_eqi (n := 11) d1 rfl (by kernel_rfl) (by kernel_rfl)) ?_
    refine HD.wl_norm (a' := ⟨List.toArray (u0::u1::u2::(.pointer (some ⟨hp, 0, none⟩))::(.pointer (some ⟨hr, 0, none⟩))::(kv)::(.int .i64 (n : Int))::(.pointer (some ⟨h7, 0, none⟩))::u8::(pa)::(.pointer (some ⟨rb, 0, none⟩))::u11::u12::u13::u14::u15::u16::u17::u18::u19::u20::u21::u22::u23::u24::u25::u26::u27::u28::u29::u30::u31::u32::u33::u34::u35::u36::u37::u38::u39::u40::u41::u42::u43::u44::u45::u46::u47::u48::u49::u50::u51::u52::u53::u54::u55::u56::u57::u58::u59::u60::u61::u62::u63::(.pointer (some ⟨h7, 0, none⟩))::(.int .i64 s.kind)::(.bool false)::u67::u68::u69::u70::u71::u72::u73::u74::u75::u76::u77::u78::u79::u80::u81::u82::u83::u84::u85::u86::u87::u88::u89::u90::u91::u92::u93::u94::u95::u96::u97::u98::u99::u100::u101::u102::u103::u104::u105::u106::u107::u108::u109::u110::u111::u112::u113::u114::u115::u116::u117::u118::u119::u120::u121::u122::u123::u124::u125::u126::u127::u128::u129::u130::u131::u132::[]), []⟩) (by kernel_rfl) ?_
    refine HD.wl_done ?_
    obtain ⟨Fin, hc, hf⟩ := HE.out.2.1.chg HE.out.1 HE.out.2.2.2.2.1
    have HC := Lib.hid (And.intro hc hf)
    clear hc hf
    go_upto_region 19 with fail
    refine HD.wl_begin ?_
    refine HD.wl_takeF (d := some 77) (v := (pa)) (by kernel_rfl) rfl rfl (y_move rfl (by kernel_rfl)) ?_
    refine HD.wl_takeF (d := some 78) (v := (.pointer (some ⟨rb, 0, none⟩))) (by kernel_rfl) rfl rfl (y_move rfl (by kernel_rfl)) ?_
    refine HD.wl_takeF (d := some 79) (v := (.agg s.L.toArray)) (by kernel_rfl) rfl rfl (y_step rfl (by kernel_rfl) (blk_range HE.out.2.2.1)) ?_
    refine HD.wl_callF (d := some 80) (v := (.bool true)) (by kernel_rfl) rfl rfl fun K hK => ?_
    refine op_c3 (fun _ _ => rfl) rfl (by kernel_rfl) (by kernel_rfl) (by kernel_rfl) (asks_any (HE.out.2.1.qs HE.out.1 HE.out.2.2.2.2.1) (HE.out.2.1.rr HE.out.1) (fun b hb => (HE.out.1.zo b (HE.out.2.1.vz HE.out.1 b hb)).2.2.2.2) (HE.out.2.1.nk HE.out.1) (Nat.le_trans (HE.out.2.1.len HE.out.1) HE.out.2.2.2.2.1) s) ?_
    rintro e w8 ⟨rfl, hm8⟩
    have H8 := Lib.hid hm8
    clear hm8
    refine ⟨_, rfl, hK _ ?_⟩
    clear hK K
    refine HD.wl_takeF (d := some 81) (v := (.bool false)) (by kernel_rfl) rfl rfl (y_not (b := true) rfl (by kernel_rfl)) ?_
    refine HD.wl_takeF (d := some 82) (v := (.bool false)) (by kernel_rfl) rfl rfl (y_move rfl (by kernel_rfl)) ?_
    refine HD.wl_takeF (d := some 83) (v := (pa)) (by kernel_rfl) rfl rfl (y_move rfl (by kernel_rfl)) ?_
    refine HD.wl_takeF (d := some 84) (v := (.pointer (some ⟨rb, 0, none⟩))) (by kernel_rfl) rfl rfl (y_move rfl (by kernel_rfl)) ?_
    refine HD.wl_takeF (d := some 85) (v := (.agg s.L.toArray)) (by kernel_rfl) rfl rfl (y_step rfl (by kernel_rfl) (blk_range (HE.out.2.2.1.mod H8.out (fun c => c)))) ?_
    refine HD.wl_callF (d := some 86) (v := (.bool true)) (by kernel_rfl) rfl rfl fun K hK => ?_
    refine op_c3 (fun _ _ => rfl) rfl (by kernel_rfl) (by kernel_rfl) (by kernel_rfl) (changes_any s (HC.out.1.mod0 H8.out) rfl) ?_
    rintro e w9 ⟨rfl, hf9⟩
    have H9 := Lib.hid hf9
    clear hf9
    refine ⟨_, rfl, hK _ ?_⟩
    clear hK K
    refine HD.wl_takeF (d := some 87) (v := (.bool false)) (by kernel_rfl) rfl rfl (y_not (b := true) rfl (by kernel_rfl)) ?_
    refine HD.wl_takeF (d := some 88) (v := (.bool false)) (by kernel_rfl) rfl rfl (y_pick (b := false) rfl (by kernel_rfl) (by kernel_rfl)) ?_
    refine HD.wl_norm (a' := ⟨List.toArray (u0::u1::u2::(.pointer (some ⟨hp, 0, none⟩))::(.pointer (some ⟨hr, 0, none⟩))::(kv)::(.int .i64 (n : Int))::(.pointer (some ⟨h7, 0, none⟩))::u8::(pa)::(.pointer (some ⟨rb, 0, none⟩))::u11::u12::u13::u14::u15::u16::u17::u18::u19::u20::u21::u22::u23::u24::u25::u26::u27::u28::u29::u30::u31::u32::u33::u34::u35::u36::u37::u38::u39::u40::u41::u42::u43::u44::u45::u46::u47::u48::u49::u50::u51::u52::u53::u54::u55::u56::u57::u58::u59::u60::u61::u62::u63::(.pointer (some ⟨h7, 0, none⟩))::(.int .i64 s.kind)::(.bool false)::u67::u68::u69::u70::u71::u72::u73::u74::u75::u76::(pa)::(.pointer (some ⟨rb, 0, none⟩))::(.agg s.L.toArray)::(.bool true)::(.bool false)::(.bool false)::(pa)::(.pointer (some ⟨rb, 0, none⟩))::(.agg s.L.toArray)::(.bool true)::(.bool false)::(.bool false)::u89::u90::u91::u92::u93::u94::u95::u96::u97::u98::u99::u100::u101::u102::u103::u104::u105::u106::u107::u108::u109::u110::u111::u112::u113::u114::u115::u116::u117::u118::u119::u120::u121::u122::u123::u124::u125::u126::u127::u128::u129::u130::u131::u132::[]), []⟩) (by kernel_rfl) ?_
    refine HD.wl_done ?_
    go_wp2_with fail
    obtain ⟨O', v', l', Z', h9⟩ := HC.out.2 _ H9.out
    exact HQ.out O' v' l' Z' _ _ _ _ _ _ _ _ _ _ _ _ _ _ _ _ _ _ _ _ _ _ _ _ _ _ _ _ (h9.up (Nat.le_refl _) (Nat.le_succ _))
end Go.Proofs.Ytknbehjhaaidoaa.IX

