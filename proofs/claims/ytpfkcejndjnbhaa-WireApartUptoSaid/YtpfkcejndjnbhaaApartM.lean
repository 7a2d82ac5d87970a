/- The law WireApart: what is held while the two are added to by turns. -/
import Derived.Test.YtpfkcejndjnbhaaKput
import Derived.Test.YtpfkcejndjnbhaaAddsM
import Derived.StillTailTactics
namespace Go.Proofs.Ytpfkcejndjnbhaa.AP
open Go.RowKit Mem WM
open Go.Proofs.Ytpfkcejndjnbhaa.WD (RdT RdB u8_info own_mod key_size rowS conv_string)
open Go.Proofs.Ytpfkcejndjnbhaa.OP (AddI AddAt allB allB_0 allB_succ Elems cell_lt atA)
open Go.Proofs.Ytpfkcejndjnbhaa.EN
open Go.Proofs.Ytpfkcejndjnbhaa.EK (RdT.pre Safe nextK)
open Go.Proofs.Ytpfkcejndjnbhaa.AD (Enc0)
open Go.Proofs.Ytpfkcejndjnbhaa.BK (conv_rds add_range range_mod add_info allB_le)
open Go.Proofs.Ytpfkcejndjnbhaa.ON (addL_len)
set_option linter.unusedVariables false
set_option linter.unusedSimpArgs false

/-! ### Rows that lie apart -/
def Dis (A B : Option Addr) : Prop := ∀ b, atA A b → ¬ atA B b
def Low (w : World) (A : Option Addr) : Prop := ∀ b, atA A b → b < w.heap.size
def High (n : Nat) (A : Option Addr) : Prop := ∀ b, atA A b → n ≤ b
theorem Dis.symm {A B : Option Addr} (h : Dis A B) : Dis B A := fun b h1 h2 => h b h2 h1
theorem Dis.none_ (B : Option Addr) : Dis none B := fun b h => by cases h
theorem Dis.next {w : World} {A A' B : Option Addr} (h : Dis A B) (hl : Low w B) (hn : nextA w A A') : Dis A' B := by
  rcases hn with rfl | ⟨b', hb', rfl⟩
  · exact h
  · intro b hb c
    injection hb with hb; injection hb with hb
    have := hl b c
    omega
theorem High.next {w : World} {n : Nat} {A A' : Option Addr} (h : High n A) (hs : n ≤ w.heap.size) (hn : nextA w A A') : High n A' := by
  rcases hn with rfl | ⟨b', hb', rfl⟩
  · exact h
  · intro b hb
    injection hb with hb; injection hb with hb
    omega
theorem Low.up {w w' : World} {A : Option Addr} (h : Low w A) (hs : w.heap.size ≤ w'.heap.size) : Low w' A := fun b hb => Nat.lt_of_lt_of_le (h b hb) hs

theorem rdt_mod {S : Nat → Prop} {w w' : World} {A : Option Addr} {l : List UInt8} (h : RdT w A l) (hm : Mod S w w') (hn : ∀ b o, A = some ⟨b, o, none⟩ → ¬ S b) : RdT w' A l := fun hl => by
  obtain ⟨g, o, cs, e, hb, hc⟩ := h hl
  exact ⟨g, o, cs, e, hb.mod hm (hn g o e), hc⟩

/-! ### The one that was copied -/
/-- An Enc at r, copied from the one at q when that held P: it shares the row A0 still, or has its own, A2. -/
def FAt (w : World) (r q : Nat) (A0 A2 : Option Addr) (P bs : List UInt8) : Prop :=
  EncAt w r A2 bs ∨ (A2 = none ∧ bs = P ∧ ∃ c ow, Blk w r 26 #[.slice A0 P.length c, ow] ∧ RdT w A0 P ∧ (A0 = none ∨ ∃ b, A0 = some ⟨b, 0, none⟩) ∧ (ow = .pointer none ∨ ow = .pointer (some ⟨q, 0, none⟩)))

section
variable {S : Nat → Prop} {w w' : World} {r q : Nat} {A0 A2 : Option Addr} {P bs : List UInt8}
theorem FAt.blk (h : FAt w r q A0 A2 P bs) : ∃ cs, Blk w r 26 cs := by
  rcases h with h | ⟨_, _, c, ow, h, _⟩
  · exact h.blk
  · exact ⟨_, h⟩
theorem FAt.encR (h : FAt w r q A0 A2 P bs) (hqr : q ≠ r) {cs : Array Value} (hq : Blk w q 26 cs) : EncR w r A2 bs := by
  rcases h with h | ⟨rfl, rfl, c, ow, h, hr, _, ho⟩
  · exact .inl h
  · refine .inr ⟨rfl, A0, c, ow, h, hr, ?_⟩
    rcases ho with rfl | rfl
    · exact .inl rfl
    · exact .inr ⟨q, cs, hqr, rfl, hq⟩
theorem FAt.row (h : FAt w r q A0 A2 P bs) : ∀ b, atA A2 b → ∃ cur, Blk w b 5 cur := fun b hb => by
  rcases h with ⟨c, _, hr⟩ | ⟨rfl, _⟩
  · obtain ⟨b', cur, e, hb'⟩ := hr.at_blk hb
    injection e with e
    exact ⟨cur, by rw [e]; exact hb'⟩
  · cases hb
theorem FAt.low (h : FAt w r q A0 A2 P bs) : Low w A2 := fun b hb => by obtain ⟨cur, hc⟩ := h.row b hb; exact hc.lt
theorem FAt.mod (h : FAt w r q A0 A2 P bs) (hm : Mod S w w') (hr : ¬ S r) (h2 : ∀ b, atA A2 b → ¬ S b) (h0 : ∀ b, atA A0 b → ¬ S b) : FAt w' r q A0 A2 P bs := by
  rcases h with h | ⟨h1, h3, c, ow, hb, hrd, hA, ho⟩
  · exact .inl (h.mod hm hr h2)
  · refine .inr ⟨h1, h3, c, ow, hb.mod hm hr, rdt_mod hrd hm (fun b o e => ?_), hA, ho⟩
    rcases hA with hA | ⟨b', hA⟩
    · rw [hA] at e; cases e
    · rw [hA] at e
      injection e with e; injection e with e1 e2
      subst e1
      exact h0 _ hA
theorem FAt.mod_no (h : FAt w r q A0 A2 P bs) (hm : Mod no w w') : FAt w' r q A0 A2 P bs := h.mod hm (fun c => c) (fun _ _ c => c) (fun _ _ c => c)
/-- The other one is added to: what is shared keeps its bytes. -/
theorem FAt.other {A1 A1' : Option Addr} {es es' : List UInt8} (h : FAt w r q A0 A2 P bs) (hk : nextK w A1 es w' A1' es') (hm : Mod (encS q A1) w w') (hp : P <+: es) (hqr : q ≠ r) {cq : Array Value} (hq : Blk w q 26 cq) (hrow : ∀ b, atA A1 b → ∃ cur, Blk w b 5 cur) (h12 : Dis A1 A2) : FAt w' r q A0 A2 P bs := by
  obtain ⟨ct, hct⟩ := h.blk
  have hr : ¬ encS q A1 r := fun c => by
    rcases c with c | c
    · exact hqr c.symm
    · obtain ⟨cur, hc⟩ := hrow r c
      exact absurd (hc.same hct).1 (by decide)
  rcases h with h | ⟨h1, h3, c, ow, hb, hrd, hA, ho⟩
  · refine .inl (h.mod hm hr fun b hb c => ?_)
    rcases c with c | c
    · subst c
      obtain ⟨c', _, hr2⟩ := h
      obtain ⟨b', cur, e, hcb⟩ := hr2.at_blk hb
      injection e with e; subst e
      exact absurd (hcb.same hq).1 (by decide)
    · exact h12 b c hb
  · refine .inr ⟨h1, h3, c, ow, hb.mod hm hr, ?_, hA, ho⟩
    rcases hA with rfl | ⟨b', rfl⟩
    · intro hl
      obtain ⟨g, o, cs, e, _⟩ := hrd hl
      cases e
    · exact hk.2.2 b' P hrd fun _ => hp
/-- The copy. -/
theorem FAt.copy {A1 : Option Addr} (h : Enc0 w q A1 P) : ∃ A0 c ow, (∀ b, atA A0 b → atA A1 b) ∧ Blk w q 26 #[.slice A0 P.length c, ow] ∧ RdT w A0 P ∧ (A0 = none ∨ ∃ b, A0 = some ⟨b, 0, none⟩) ∧ (ow = .pointer none ∨ ow = .pointer (some ⟨q, 0, none⟩)) := by
  rcases h with ⟨c, hb, hr⟩ | ⟨rfl, rfl, hb⟩
  · refine ⟨A1, c, _, fun b hb => hb, hb, hr.rdt, ?_, .inr rfl⟩
    cases A1 with
    | none => exact .inl rfl
    | some ad =>
      obtain ⟨b', cur, e, hcb⟩ := hr.at_blk rfl
      exact .inr ⟨b', by rw [e]⟩
  · exact ⟨none, 0, _, fun b hb => hb, hb, RdT.nil_ _ _, .inl rfl, .inl rfl⟩
end

/-! ### put -/
section
variable {w : World} {q r : Nat} {A A0 A2' : Option Addr} {bs P : List UInt8}
theorem put_0K (kind : Int) (N : Nat) (Sx : List UInt8) (A2 : Option Addr) (n cp : Nat) (K B : List UInt8) (h : Enc0 w q A bs) (hN : N < 18446744073709551616) (hK : K.length = 32) (hn : n = B.length)
    (hl : bs.length + Sx.length + B.length ≤ 140737400000000) (hr : Rds w 1 A2 B.length (bvs B)) (hs : 0 < B.length → ∀ ad, A2 = some ad → ad.block ≠ q ∧ ¬ atA A ad.block) :
    Calls Try.prog 10 #[.pointer (some ⟨q, 0, none⟩), addV kind N Sx A2 n cp K] w fun e w' => e = .returned (.tuple #[]) ∧ ∃ A', nextK w A bs w' A' (bs ++ addA kind N Sx B K) ∧ Enc0 w' q A' (bs ++ addA kind N Sx B K) ∧ Mod (encS q A) w w' := by
  refine (EK.put_anyK kind N Sx A2 n cp K B h.r hN hK hn hl hr hs).mono ?_
  rintro e w' ⟨h1, ⟨A', n1, e1, m1⟩ | ⟨h2, h3⟩⟩
  · exact ⟨h1, A', n1, .inl e1, m1⟩
  · rw [h2, List.append_nil]
    exact ⟨h1, A, nextK.no _ _ h3, h.mod_no h3, h3.mono (fun _ _ c => False.elim c)⟩
theorem put_FK (kind : Int) (N : Nat) (Sx : List UInt8) (A2 : Option Addr) (n cp : Nat) (K B : List UInt8) (h : FAt w r q A0 A P bs) (hqr : q ≠ r) {cs : Array Value} (hq : Blk w q 26 cs) (hN : N < 18446744073709551616) (hK : K.length = 32) (hn : n = B.length)
    (hl : bs.length + Sx.length + B.length ≤ 140737400000000) (hr : Rds w 1 A2 B.length (bvs B)) (hs : 0 < B.length → ∀ ad, A2 = some ad → ad.block ≠ r ∧ ¬ atA A ad.block) :
    Calls Try.prog 10 #[.pointer (some ⟨r, 0, none⟩), addV kind N Sx A2 n cp K] w fun e w' => e = .returned (.tuple #[]) ∧ ∃ A', nextA w A A' ∧ FAt w' r q A0 A' P (bs ++ addA kind N Sx B K) ∧ Mod (encS r A) w w' := by
  refine (EK.put_anyK kind N Sx A2 n cp K B (h.encR hqr hq) hN hK hn hl hr hs).mono ?_
  rintro e w' ⟨h1, ⟨A', n1, e1, m1⟩ | ⟨h2, h3⟩⟩
  · exact ⟨h1, A', n1.1, .inl e1, m1⟩
  · rw [h2, List.append_nil]
    exact ⟨h1, A, nextA.refl _ _, h.mod_no h3, h3.mono (fun _ _ c => False.elim c)⟩
end

/-! ### By turns -/
/-- The two, e at q with P and E, f at r with P and G; the texts P, X and Y beside them. -/
structure ApH (W : World) (q r : Nat) (P E G X Y : List UInt8) (wr : World) (A0 A1 A2 Aa Ao At : Option Addr) (ca co ct : Nat) : Prop where
  e : Enc0 wr q A1 (P ++ E)
  f : FAt wr r q A0 A2 P (P ++ G)
  ra : RowA wr Aa ca P
  ro : RowA wr Ao co X
  rt : RowA wr At ct Y
  qr : q ≠ r
  hq : W.heap.size ≤ q
  hr : W.heap.size ≤ r
  low0 : Low wr A0
  d0o : Dis A0 Ao
  d0t : Dis A0 At
  d12 : Dis A1 A2
  d1a : Dis A1 Aa
  d1o : Dis A1 Ao
  d1t : Dis A1 At
  d2a : Dis A2 Aa
  d2o : Dis A2 Ao
  d2t : Dis A2 At
  dao : Dis Aa Ao
  dat : Dis Aa At
  dot : Dis Ao At
  h1 : High W.heap.size A1
  h2 : High W.heap.size A2
  ho : High W.heap.size Ao
  ht : High W.heap.size At
  old : Mod no W wr

section
variable {W : World} {q r : Nat} {P E G X Y : List UInt8} {wr w' : World} {A0 A1 A2 Aa Ao At : Option Addr} {ca co ct : Nat}
theorem enc_low {w : World} {bs : List UInt8} (h : Enc0 w q A1 bs) : Low w A1 := fun b hb => by obtain ⟨cur, hc⟩ := h.row b hb; exact hc.lt
theorem row_low {w : World} {A : Option Addr} {c : Nat} {l : List UInt8} (h : RowA w A c l) : Low w A := h.lt
theorem off_enc {w : World} {A : Option Addr} {c : Nat} {l : List UInt8} {cs : Array Value} (h : RowA w A c l) (hq : Blk w q 26 cs) (hd : Dis A1 A) : ∀ b, atA A b → ¬ encS q A1 b := fun b hb c => by
  rcases c with c | c
  · subst c
    exact h.ne hq (by decide) hb
  · exact hd b c hb
theorem ApH.mod_no (h : ApH W q r P E G X Y wr A0 A1 A2 Aa Ao At ca co ct) (hm : Mod no wr w') : ApH W q r P E G X Y w' A0 A1 A2 Aa Ao At ca co ct :=
  { h with e := h.e.mod_no hm, f := h.f.mod_no hm, ra := h.ra.mod hm (fun _ _ c => c), ro := h.ro.mod hm (fun _ _ c => c), rt := h.rt.mod hm (fun _ _ c => c), low0 := h.low0.up hm.size, old := h.old.and_then hm }
theorem ApH.putE {A1' : Option Addr} {news : List UInt8} (h : ApH W q r P E G X Y wr A0 A1 A2 Aa Ao At ca co ct) (hk : nextK wr A1 (P ++ E) w' A1' (P ++ E ++ news)) (he : Enc0 w' q A1' (P ++ E ++ news)) (hm : Mod (encS q A1) wr w') :
    ApH W q r P (E ++ news) G X Y w' A0 A1' A2 Aa Ao At ca co ct := by
  obtain ⟨cq, hcq⟩ := h.e.blk
  have hs := h.old.size
  refine { h with e := ?_, f := ?_, ra := h.ra.mod hm (off_enc h.ra hcq h.d1a), ro := h.ro.mod hm (off_enc h.ro hcq h.d1o), rt := h.rt.mod hm (off_enc h.rt hcq h.d1t), low0 := h.low0.up hm.size, d12 := h.d12.next h.f.low hk.1, d1a := h.d1a.next h.ra.lt hk.1, d1o := h.d1o.next h.ro.lt hk.1, d1t := h.d1t.next h.rt.lt hk.1, h1 := h.h1.next hs hk.1, old := h.old.trans hm fun b hb c => ?_ }
  · rw [← List.append_assoc]; exact he
  · exact h.f.other hk hm (List.prefix_append _ _) h.qr hcq h.e.row h.d12
  · rcases c with c | c
    · have := h.hq; omega
    · have := h.h1 b c; omega
theorem ApH.putF {A2' : Option Addr} {news : List UInt8} (h : ApH W q r P E G X Y wr A0 A1 A2 Aa Ao At ca co ct) (hk : nextA wr A2 A2') (he : FAt w' r q A0 A2' P (P ++ G ++ news)) (hm : Mod (encS r A2) wr w') :
    ApH W q r P E (G ++ news) X Y w' A0 A1 A2' Aa Ao At ca co ct := by
  obtain ⟨cr, hcr⟩ := h.f.blk
  obtain ⟨cq, hcq⟩ := h.e.blk
  have hs := h.old.size
  refine { h with e := h.e.mod hm (fun c => ?_) (fun b hb c => ?_), f := ?_, ra := h.ra.mod hm (off_enc h.ra hcr h.d2a), ro := h.ro.mod hm (off_enc h.ro hcr h.d2o), rt := h.rt.mod hm (off_enc h.rt hcr h.d2t), low0 := h.low0.up hm.size, d12 := (h.d12.symm.next (enc_low h.e) hk).symm, d2a := h.d2a.next h.ra.lt hk, d2o := h.d2o.next h.ro.lt hk, d2t := h.d2t.next h.rt.lt hk, h2 := h.h2.next hs hk, old := h.old.trans hm fun b hb c => ?_ }
  · rcases c with c | c
    · exact h.qr c
    · obtain ⟨cur, hc⟩ := h.f.row q c
      exact absurd (hc.same hcq).1 (by decide)
  · rcases c with c | c
    · subst c
      obtain ⟨cur, hc⟩ := h.e.row b hb
      exact absurd (hc.same hcr).1 (by decide)
    · exact h.d12 b hb c
  · rw [← List.append_assoc]; exact he
  · rcases c with c | c
    · have := h.hr; omega
    · have := h.h2 b c; omega
theorem ApH.one {Ao' : Option Addr} {co' : Nat} {X' : List UInt8} (h : ApH W q r P E G X Y wr A0 A1 A2 Aa Ao At ca co ct) (hk : nextA wr Ao Ao') (hR : RowA w' Ao' co' X') (hm : Mod (atA Ao) wr w') :
    ApH W q r P E G X' Y w' A0 A1 A2 Aa Ao' At ca co' ct := by
  obtain ⟨cr, hcr⟩ := h.f.blk
  obtain ⟨cq, hcq⟩ := h.e.blk
  have hs := h.old.size
  exact { h with e := h.e.mod hm (h.ro.ne hcq (by decide)) h.d1o, f := h.f.mod hm (h.ro.ne hcr (by decide)) h.d2o h.d0o, ra := h.ra.mod hm h.dao, ro := hR, rt := h.rt.mod hm h.dot.symm, low0 := h.low0.up hm.size, d0o := (h.d0o.symm.next h.low0 hk).symm, d1o := (h.d1o.symm.next (enc_low h.e) hk).symm, d2o := (h.d2o.symm.next h.f.low hk).symm, dao := (h.dao.symm.next h.ra.lt hk).symm, dot := h.dot.next h.rt.lt hk, ho := h.ho.next hs hk, old := h.old.trans hm fun b hb c => by have := h.ho b c; omega }
theorem ApH.two {At' : Option Addr} {ct' : Nat} {Y' : List UInt8} (h : ApH W q r P E G X Y wr A0 A1 A2 Aa Ao At ca co ct) (hk : nextA wr At At') (hR : RowA w' At' ct' Y') (hm : Mod (atA At) wr w') :
    ApH W q r P E G X Y' w' A0 A1 A2 Aa Ao At' ca co ct' := by
  obtain ⟨cr, hcr⟩ := h.f.blk
  obtain ⟨cq, hcq⟩ := h.e.blk
  have hs := h.old.size
  exact { h with e := h.e.mod hm (h.rt.ne hcq (by decide)) h.d1t, f := h.f.mod hm (h.rt.ne hcr (by decide)) h.d2t h.d0t, ra := h.ra.mod hm h.dat, ro := h.ro.mod hm h.dot, rt := hR, low0 := h.low0.up hm.size, d0t := (h.d0t.symm.next h.low0 hk).symm, d1t := (h.d1t.symm.next (enc_low h.e) hk).symm, d2t := (h.d2t.symm.next h.f.low hk).symm, dat := (h.dat.symm.next h.ra.lt hk).symm, dot := (h.dot.symm.next h.ro.lt hk).symm, ht := h.ht.next hs hk, old := h.old.trans hm fun b hb c => by have := h.ht b c; omega }
/-- The beginning: the copy is stored into a new block. -/
theorem ApH.start {w0 : World} {A0 : Option Addr} {c : Nat} {ow : Value} (he : Enc0 w0 q A1 P) (ha : RowA w0 Aa ca P) (hq : W.heap.size ≤ q) (h1 : High W.heap.size A1) (ha1 : High W.heap.size Aa) (d : Dis A1 Aa) (old : Mod no W w0)
    (h0 : ∀ b, atA A0 b → atA A1 b) (hA : A0 = none ∨ ∃ b, A0 = some ⟨b, 0, none⟩) (ho : ow = .pointer none ∨ ow = .pointer (some ⟨q, 0, none⟩)) (hrd : RdT w0 A0 P) (hm : Mod no w0 w') (hb : Blk w' w0.heap.size 26 #[.slice A0 P.length c, ow]) :
    ApH W q w0.heap.size P [] [] [] [] w' A0 A1 none Aa none none ca 0 0 := by
  have hs := old.size
  obtain ⟨cq, hcq⟩ := he.blk
  have hqr := hcq.lt
  have nl : ∀ A, Dis A none := fun A => (Dis.none_ A).symm
  exact { e := by rw [List.append_nil]; exact he.mod_no hm
          f := .inr ⟨rfl, List.append_nil _, c, ow, hb, rdt_mod hrd hm (fun _ _ _ c => c), hA, ho⟩
          ra := ha.mod hm (fun _ _ c => c), ro := ⟨rfl, .inl ⟨rfl, rfl⟩⟩, rt := ⟨rfl, .inl ⟨rfl, rfl⟩⟩, qr := by omega, hq := hq, hr := hs
          low0 := fun b hb => Nat.lt_of_lt_of_le (enc_low he b (h0 b hb)) hm.size, d0o := nl _, d0t := nl _, d12 := nl _, d1a := d, d1o := nl _, d1t := nl _, d2a := Dis.none_ _, d2o := nl _, d2t := nl _, dao := nl _, dat := nl _, dot := nl _
          h1 := h1, h2 := fun b hb => (by cases hb), ho := fun b hb => (by cases hb), ht := fun b hb => (by cases hb), old := old.and_then hm }
end

end Go.Proofs.Ytpfkcejndjnbhaa.AP
