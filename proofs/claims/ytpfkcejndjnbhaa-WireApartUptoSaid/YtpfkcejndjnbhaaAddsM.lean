/- The law WireAdds: what is held through a round. -/
import Derived.Test.YtpfkcejndjnbhaaAgain
import Derived.StillTailTactics
namespace Go.Proofs.Ytpfkcejndjnbhaa.AD
open Go.RowKit Mem WM
open Go.Proofs.Ytpfkcejndjnbhaa.WD (RdT RdB u8_info own_mod key_size rowS conv_string wpList_put1)
open Go.Proofs.Ytpfkcejndjnbhaa.OP (AddI AddAt allB allB_0 allB_succ Elems cell_lt atA copied_r)
open Go.Proofs.Ytpfkcejndjnbhaa.EN
open Go.Proofs.Ytpfkcejndjnbhaa.BK (conv_rds add_range range_mod add_info allB_le)
open Go.Proofs.Ytpfkcejndjnbhaa.ON (wpList_laid addL_len)
set_option linter.unusedVariables false
set_option linter.unusedSimpArgs false

/-- A row that was answered. -/
structure KR where
  A : Option Addr
  c : Nat
  l : List UInt8
def KR.v (x : KR) : Value := .slice x.A x.l.length x.c
def KR.s (x : KR) : Value := .string ⟨x.l.toArray⟩

/-- An Enc of its own, or a zero one. -/
def Enc0 (w : World) (q : Nat) (A : Option Addr) (bs : List UInt8) : Prop := EncAt w q A bs ∨ (A = none ∧ bs = [] ∧ Blk w q 26 #[.slice none 0 0, .pointer none])
section
variable {S : Nat → Prop} {w w' : World} {q : Nat} {A : Option Addr} {bs : List UInt8}
theorem Enc0.r (h : Enc0 w q A bs) : EncR w q A bs := by
  rcases h with h | ⟨rfl, rfl, h⟩
  · exact .inl h
  · exact .inr ⟨rfl, none, 0, .pointer none, h, RdT.nil_ _ _, .inl rfl⟩
theorem Enc0.blk (h : Enc0 w q A bs) : ∃ cs, Blk w q 26 cs := h.r.blk
theorem Enc0.row (h : Enc0 w q A bs) : ∀ b, atA A b → ∃ cur, Blk w b 5 cur := h.r.row
theorem Enc0.mod (h : Enc0 w q A bs) (hm : Mod S w w') (hg : ¬ S q) (hs : ∀ b, atA A b → ¬ S b) : Enc0 w' q A bs := by
  rcases h with h | ⟨h1, h2, h⟩
  · exact .inl (h.mod hm hg hs)
  · exact .inr ⟨h1, h2, h.mod hm hg⟩
theorem Enc0.mod_no (h : Enc0 w q A bs) (hm : Mod no w w') : Enc0 w' q A bs := h.mod hm (fun c => c) (fun _ _ c => c)
/-- The law's put, on such a one. -/
theorem put_0 (kind : Int) (N : Nat) (Sx : List UInt8) (A2 : Option Addr) (n cp : Nat) (K B : List UInt8) (h : Enc0 w q A bs) (hN : N < 18446744073709551616) (hK : K.length = 32) (hn : n = B.length)
    (hl : bs.length + Sx.length + B.length ≤ 140737400000000) (hr : Rds w 1 A2 B.length (bvs B)) (hs : 0 < B.length → ∀ ad, A2 = some ad → ad.block ≠ q ∧ ¬ atA A ad.block) :
    Calls Try.prog 10 #[.pointer (some ⟨q, 0, none⟩), addV kind N Sx A2 n cp K] w fun e w' => e = .returned (.tuple #[]) ∧ ∃ A', nextA w A A' ∧ Enc0 w' q A' (bs ++ addA kind N Sx B K) ∧ Mod (encS q A) w w' := by
  refine (put_any2 kind N Sx A2 n cp K B h.r hN hK hn hl hr hs).mono ?_
  rintro e w' ⟨h1, ⟨A', n1, e1, m1⟩ | ⟨h2, h3⟩⟩
  · exact ⟨h1, A', n1, .inl e1, m1⟩
  · rw [h2, List.append_nil]
    exact ⟨h1, A, nextA.refl _ _, h.mod_no h3, h3.mono (fun _ _ c => False.elim c)⟩
end

/-- What is held at a round's head. -/
structure AddsH (W : World) (F : Nat → AddI) (q : Nat) (k : Nat) (va vk vw : Value) (wr : World) (A1 Aa : Option Addr) (ca : Nat) (L : List KR) : Prop where
  enc : Enc0 wr q A1 (allB F k)
  all : va = .slice Aa (allB F k).length ca
  row : RowA wr Aa ca (allB F k)
  kept : wr.ownsRow W.heap.size 23 1 vk L.length (L.map KR.v)
  want : wr.ownsRow W.heap.size 9 1 vw L.length (L.map KR.s)
  rows : ∀ x ∈ L, RowA wr x.A x.c x.l ∧ ∀ b, atA x.A b → W.heap.size ≤ b ∧ ¬ atA A1 b ∧ ¬ atA Aa b
  apart : ∀ b, atA A1 b → ¬ atA Aa b
  high1 : ∀ b, atA A1 b → W.heap.size ≤ b
  higha : ∀ b, atA Aa b → W.heap.size ≤ b
  old : Mod no W wr

theorem own_keep {S : Nat → Prop} {w w' : World} {base : Nat} {e : TypeId} {size : Nat} {v : Value} {n : Nat} {xs : List Value} (h : w.ownsRow base e size v n xs) (hm : Mod S w w') (hs : ∀ b cs, Blk w b e cs → ¬ S b) : w'.ownsRow base e size v n xs := by
  refine ⟨h.1, ?_⟩
  rcases h.2 with h2 | ⟨g, cap, cur, hv, hg, hb, r⟩
  · exact .inl h2
  · exact .inr ⟨g, cap, cur, hv, hg, Blk.mod (show Blk w g e cur from hb) hm (hs g cur hb), r⟩

/-- The rows that were answered, the list of them, and the texts, behind a change of other rows of bytes and of the Enc. -/
theorem AddsH.lists {W : World} {F : Nat → AddI} {q k : Nat} {va vk vw : Value} {wr w' : World} {A1 Aa : Option Addr} {ca : Nat} {L : List KR} (h : AddsH W F q k va vk vw wr A1 Aa ca L) (hm : Mod (encS q A1) wr w') :
    w'.ownsRow W.heap.size 23 1 vk L.length (L.map KR.v) ∧ w'.ownsRow W.heap.size 9 1 vw L.length (L.map KR.s) ∧ (∀ x ∈ L, RowA w' x.A x.c x.l) ∧ RowA w' Aa ca (allB F k) := by
  obtain ⟨ct, hct⟩ := h.enc.blk
  have hty : ∀ (t : TypeId) b cs, Blk wr b t cs → t ≠ 26 → t ≠ 5 → ¬ encS q A1 b := fun t b cs hb h1 h2 c => by
    rcases c with c | c
    · subst c; exact h1 (hb.same hct).1
    · obtain ⟨cur, hcb⟩ := h.enc.row b c
      exact h2 (hb.same hcb).1
  refine ⟨own_keep h.kept hm fun b cs hb => hty _ b cs hb (by decide) (by decide), own_keep h.want hm fun b cs hb => hty _ b cs hb (by decide) (by decide), fun x hx => (h.rows x hx).1.mod hm fun b hb c => ?_, h.row.mod hm fun b hb c => ?_⟩
  · rcases c with c | c
    · subst c
      obtain ⟨b', cur, e, hcb⟩ := (h.rows x hx).1.at_blk hb
      injection e with e; subst e
      exact absurd (hcb.same hct).1 (by decide)
    · exact ((h.rows x hx).2 b hb).2.1 c
  · rcases c with c | c
    · subst c
      obtain ⟨b', cur, e, hcb⟩ := h.row.at_blk hb
      injection e with e; subst e
      exact absurd (hcb.same hct).1 (by decide)
    · exact h.apart b c hb

/-- What is held behind the round's put. -/
structure AddsP (W : World) (F : Nat → AddI) (q : Nat) (k : Nat) (vk vw : Value) (wr : World) (A1 Aa : Option Addr) (ca : Nat) (L : List KR) : Prop where
  enc : Enc0 wr q A1 (allB F (k + 1))
  row : RowA wr Aa ca (allB F k)
  kept : wr.ownsRow W.heap.size 23 1 vk L.length (L.map KR.v)
  want : wr.ownsRow W.heap.size 9 1 vw L.length (L.map KR.s)
  rows : ∀ x ∈ L, RowA wr x.A x.c x.l ∧ ∀ b, atA x.A b → W.heap.size ≤ b ∧ ¬ atA A1 b ∧ ¬ atA Aa b
  apart : ∀ b, atA A1 b → ¬ atA Aa b
  high1 : ∀ b, atA A1 b → W.heap.size ≤ b
  higha : ∀ b, atA Aa b → W.heap.size ≤ b
  old : Mod no W wr

theorem AddsP.mod_no {W : World} {F : Nat → AddI} {q k : Nat} {vk vw : Value} {wr w' : World} {A1 Aa : Option Addr} {ca : Nat} {L : List KR} (h : AddsP W F q k vk vw wr A1 Aa ca L) (hm : Mod no wr w') : AddsP W F q k vk vw w' A1 Aa ca L :=
  ⟨h.enc.mod_no hm, h.row.mod hm (fun _ _ c => c), own_keep h.kept hm (fun _ _ _ c => c), own_keep h.want hm (fun _ _ _ c => c), fun x hx => ⟨(h.rows x hx).1.mod hm (fun _ _ c => c), (h.rows x hx).2⟩, h.apart, h.high1, h.higha, h.old.and_then hm⟩
theorem AddsH.mod_no {W : World} {F : Nat → AddI} {q k : Nat} {va vk vw : Value} {wr w' : World} {A1 Aa : Option Addr} {ca : Nat} {L : List KR} (h : AddsH W F q k va vk vw wr A1 Aa ca L) (hm : Mod no wr w') : AddsH W F q k va vk vw w' A1 Aa ca L :=
  ⟨h.enc.mod_no hm, h.all, h.row.mod hm (fun _ _ c => c), own_keep h.kept hm (fun _ _ _ c => c), own_keep h.want hm (fun _ _ _ c => c), fun x hx => ⟨(h.rows x hx).1.mod hm (fun _ _ c => c), (h.rows x hx).2⟩, h.apart, h.high1, h.higha, h.old.and_then hm⟩

/-- The put. -/
theorem AddsH.put {W : World} {F : Nat → AddI} {q k : Nat} {va vk vw : Value} {wr w' : World} {A1 A7 Aa : Option Addr} {ca : Nat} {L : List KR} (h : AddsH W F q k va vk vw wr A1 Aa ca L) (hm : Mod (encS q A1) wr w') (hq : W.heap.size ≤ q) (hA : nextA wr A1 A7) (he : Enc0 w' q A7 (allB F (k + 1))) :
    AddsP W F q k vk vw w' A7 Aa ca L := by
  obtain ⟨l1, l2, l3, l4⟩ := h.lists hm
  refine ⟨he, l4, l1, l2, fun x hx => ⟨l3 x hx, fun b hb => ⟨((h.rows x hx).2 b hb).1, fun c => ?_, ((h.rows x hx).2 b hb).2.2⟩⟩, fun b hb c => ?_, fun b hb => ?_, h.higha, h.old.trans hm (fun b hb c => ?_)⟩
  · rcases hA with rfl | ⟨b', hb', rfl⟩
    · exact ((h.rows x hx).2 b hb).2.1 c
    · injection c with c; injection c with c
      have := (h.rows x hx).1.lt b hb
      omega
  · rcases hA with rfl | ⟨b', hb', rfl⟩
    · exact h.apart b hb c
    · injection hb with hb; injection hb with hb
      have := h.row.lt b c
      omega
  · rcases hA with rfl | ⟨b', hb', rfl⟩
    · exact h.high1 b hb
    · injection hb with hb; injection hb with hb
      have := h.old.size
      omega
  · rcases c with c | c
    · omega
    · have := h.high1 b c; omega

/-- The document's bytes are appended to all. -/
theorem AddsP.next {W : World} {F : Nat → AddI} {q k : Nat} {vk vw : Value} {wr w' : World} {A1 Aa A10 : Option Addr} {ca c10 : Nat} {L : List KR} (h : AddsP W F q k vk vw wr A1 Aa ca L) (hA : nextA wr Aa A10) (hR : RowA w' A10 c10 (allB F (k + 1))) (hm : Mod (atA Aa) wr w') {va : Value} (hva : va = .slice A10 (allB F (k + 1)).length c10) :
    AddsH W F q (k + 1) va vk vw w' A1 A10 c10 L := by
  obtain ⟨ct, hct⟩ := h.enc.blk
  have hty : ∀ (t : TypeId) b cs, Blk wr b t cs → t ≠ 5 → ¬ atA Aa b := fun t b cs hb h2 c => h.row.ne hb h2 c
  refine ⟨h.enc.mod hm (hty _ _ _ hct (by decide)) (fun b hb c => h.apart b hb c), hva, hR, own_keep h.kept hm fun b cs hb => hty _ b cs hb (by decide), own_keep h.want hm fun b cs hb => hty _ b cs hb (by decide), fun x hx => ⟨(h.rows x hx).1.mod hm fun b hb c => ((h.rows x hx).2 b hb).2.2 c, fun b hb => ⟨((h.rows x hx).2 b hb).1, ((h.rows x hx).2 b hb).2.1, fun c => ?_⟩⟩, fun b hb c => ?_, h.high1, fun b hb => ?_, h.old.trans hm (fun b hb c => by have := h.higha b c; omega)⟩
  · rcases hA with rfl | ⟨b', hb', rfl⟩
    · exact ((h.rows x hx).2 b hb).2.2 c
    · injection c with c; injection c with c
      have := (h.rows x hx).1.lt b hb
      omega
  · rcases hA with rfl | ⟨b', hb', rfl⟩
    · exact h.apart b hb c
    · injection c with c; injection c with c
      obtain ⟨cur, hcb⟩ := h.enc.row b hb
      have := hcb.lt
      omega
  · rcases hA with rfl | ⟨b', hb', rfl⟩
    · exact h.higha b hb
    · injection hb with hb; injection hb with hb
      have := h.old.size
      omega

/-- Bytes' answer is kept, and the text beside it. -/
theorem AddsH.push {W : World} {F : Nat → AddI} {q k : Nat} {va vk vw vk' vw' : Value} {w10 w11 w12 w13 : World} {A1 Aa A11 : Option Addr} {ca c11 : Nat} {L : List KR} {l : List UInt8} (h : AddsH W F q k va vk vw w10 A1 Aa ca L) (hm : Mod no w10 w11)
    (hR : RowA w11 A11 c11 l) (hge : ∀ b, atA A11 b → w10.heap.size ≤ b)
    (hk : w12.ownsRow W.heap.size 23 1 vk' (L.length + 1) (L.map KR.v ++ [.slice A11 l.length c11])) (mk : Mod (rowS w11 W.heap.size 23) w11 w12)
    (hw : w13.ownsRow W.heap.size 9 1 vw' (L.length + 1) (L.map KR.s ++ [.string ⟨l.toArray⟩])) (mw : Mod (rowS w12 W.heap.size 9) w12 w13) :
    AddsH W F q k va vk' vw' w13 A1 Aa ca (L ++ [⟨A11, c11, l⟩]) := by
  have h11 := h.mod_no hm
  have k1 : ∀ (t : TypeId) b cs, Blk w11 b t cs → t ≠ 23 → ¬ rowS w11 W.heap.size 23 b := fun t b cs hb hne c => by
    obtain ⟨_, cs', hb'⟩ := c; exact hne (hb.same hb').1
  have k2 : ∀ (t : TypeId) b cs, Blk w12 b t cs → t ≠ 9 → ¬ rowS w12 W.heap.size 9 b := fun t b cs hb hne c => by
    obtain ⟨_, cs', hb'⟩ := c; exact hne (hb.same hb').1
  have rowk : ∀ {A c bs}, RowA w11 A c bs → RowA w13 A c bs := fun hr => by
    have r1 := hr.mod mk (fun b hb => by obtain ⟨b', cur, e, hcb⟩ := hr.at_blk hb; injection e with e; subst e; exact k1 _ _ _ hcb (by decide))
    exact r1.mod mw (fun b hb => by obtain ⟨b', cur, e, hcb⟩ := r1.at_blk hb; injection e with e; subst e; exact k2 _ _ _ hcb (by decide))
  obtain ⟨ct, hct⟩ := h11.enc.blk
  have e1 := h11.enc.mod mk (k1 _ _ _ hct (by decide)) (fun b hb => by obtain ⟨cur, hcb⟩ := h11.enc.row b hb; exact k1 _ _ _ hcb (by decide))
  obtain ⟨ct2, hct2⟩ := e1.blk
  have e2 := e1.mod mw (k2 _ _ _ hct2 (by decide)) (fun b hb => by obtain ⟨cur, hcb⟩ := e1.row b hb; exact k2 _ _ _ hcb (by decide))
  refine ⟨e2, h.all, rowk h11.row, ?_, ?_, fun x hx => ?_, h.apart, h.high1, h.higha, ?_⟩
  · rw [List.length_append, List.map_append]
    exact own_keep hk mw (fun b cs hb => k2 _ _ _ hb (by decide))
  · rw [List.length_append, List.map_append]
    exact hw
  · rcases List.mem_append.1 hx with hx | hx
    · exact ⟨rowk (h11.rows x hx).1, (h11.rows x hx).2⟩
    · simp at hx
      subst hx
      refine ⟨rowk hR, fun b hb => ?_⟩
      have h1 := hge b hb
      have h2 := h.old.size
      refine ⟨by omega, fun c => ?_, fun c => ?_⟩
      · obtain ⟨cur, hcb⟩ := h.enc.row b c
        have := hcb.lt
        omega
      · have := h.row.lt b c
        omega
  · exact (h11.old.trans mk (fun b hb c => by have := c.1; omega)).trans mw (fun b hb c => by have := c.1; omega)

def AddsInv (W : World) (F : Nat → AddI) (q n m : Nat) (va vk vw i : Value) (wr : World) : Prop :=
  ∃ (k : Nat) (A1 Aa : Option Addr) (ca : Nat) (L : List KR), k ≤ n ∧ i = .int .i64 (k : Int) ∧ L.length ≤ k ∧ (∀ x ∈ L, x.l.length ≤ 60000000) ∧ AddsH W F q k va vk vw wr A1 Aa ca L

theorem addL_put (kind : Int) (N : Nat) (S : List UInt8) (A A' : Option Addr) (n n' c c' : Nat) (K : List UInt8) : (addL kind N S A n c K).toArray.setIfInBounds 3 (.slice A' n' c') = (addL kind N S A' n' c' K).toArray := by
  rw [List.setIfInBounds_toArray]; rfl

def BumpA (w : World) (A : Option Addr) (c n : Nat) (i : Value) (wr : World) : Prop :=
  ∃ (k : Nat) (xs : List Value), k ≤ n ∧ i = .int .i64 (k : Int) ∧ wr.ownsRow 0 5 1 (.slice A n c) n xs ∧ WD.Nums xs ∧ Mod (atA A) w wr

theorem sl_info : (Try.prog.info? 23).map (fun i => (i.zero, i.size, i.bytes)) = some (some (.slice none 0 0), 1, 24) := by kernel_rfl
theorem st_info : (Try.prog.info? 9).map (fun i => (i.zero, i.size, i.bytes)) = some (some (.string ⟨#[]⟩), 1, 16) := by kernel_rfl

theorem bool_cells : Try.prog.cellsOf 4 = 1 := by kernel_rfl

end Go.Proofs.Ytpfkcejndjnbhaa.AD
