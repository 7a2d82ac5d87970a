/- What is added to, once more: a row that was handed on keeps its bytes. -/
import Derived.Test.YtpfkcejndjnbhaaEncT
namespace Go.Proofs.Ytpfkcejndjnbhaa.EK
open Go.RowKit Mem WM
open Go.Proofs.Ytpfkcejndjnbhaa.WD (RdT RdB u8_info own_mod clone_any own_lower)
open Go.Proofs.Ytpfkcejndjnbhaa.OP (atA)
open Go.Proofs.Ytpfkcejndjnbhaa.EN
set_option linter.unusedVariables false
set_option linter.unusedSimpArgs false

section
variable {P : Program} (w : World)
theorem run_append_k (base : Nat) (t ty e : TypeId) (i : TypeInfo) (z : Value) (size bytes : Nat) (ht : P.underlying t = some (.slice e)) (hi : P.info? e = some i) (hz : i.zero = some z)
    (hsize : i.size = size) (hby : i.bytes = bytes) (hzs : z.cells.size = size) (hsz : 0 < size)
    (v : Value) (n : Nat) (xs : List Value) (hown : w.ownsRow base e size v n xs) (A : Option Addr) (m c : Nat) (news : List Value) (hr : Rds w size A m news) (h1 : ∀ u ∈ news, u.oneCell' = true)
    (h63 : n + m ≤ maxLen) (hbytes : (n + m) * bytes ≤ 140737488355328) (hbase : base ≤ w.heap.size) :
    ∃ v' w', (Builtin.append_ #[t, t] ty #[v, .slice A m c]).run P w = .ok v' w' ∧ w'.ownsRow base e size v' (n + m) (xs ++ news) ∧ w.grownBy w' v.ownBlock ∧
      (v'.ownBlock = v.ownBlock ∨ v'.ownBlock = some w.heap.size ∧ Mod no w w') := by
  obtain ⟨v', w', hrun, h2, h3, h4, _⟩ := run_append (P := P) w base t ty e i z size bytes ht hi hz hsize hby hzs hsz v n xs hown A m c news hr h1 h63 hbytes hbase
  refine ⟨v', w', hrun, h2, h3, ?_⟩
  subst hsize hby
  have hsmall : n + m ≤ 9223372036854775807 := by simp only [maxLen] at h63; omega
  rcases hown.2 with ⟨rfl, rfl⟩ | ⟨g, cap, cur, rfl, hbg, hg, hnc, hcm, hcs, htake⟩
  · rcases h4 with h4 | h4
    · exact .inl h4
    · exact .inr ⟨h4, Mod.of_grown h3 fun k hk e => by simp [Value.ownBlock] at e⟩
  · rcases A with _ | a
    · obtain rfl : m = 0 := by
        rcases Nat.eq_zero_or_pos m with h0 | h0
        · exact h0
        · obtain ⟨ad, h, _⟩ := hr.2 h0
          cases h
      rw [run_append_nothing w base t ty e i i.size ht hi _ n xs hown c] at hrun
      injection hrun with hr1 hr2
      subst hr1
      exact .inl rfl
    · have hnews : ∀ j u, news[j]? = some u → w.cell? (a.add j) = some u := by
        intro j u hu
        rcases Nat.eq_zero_or_pos m with h0 | h0
        · subst h0
          obtain rfl : news = [] := List.eq_nil_of_length_eq_zero (by simpa using hr.1)
          simp at hu
        · obtain ⟨ad', h, hc⟩ := hr.2 h0
          injection h with h
          subst h
          exact hc j u hu
      by_cases hroom : n + m ≤ cap
      · have hfit : n * i.size + news.length ≤ cur.size := by rw [hr.1, hcs, ← Nat.add_mul]; exact Nat.mul_le_mul_right _ hroom
        rw [run_append_room (P := P) w t ty e i ht hi g n cap cur hg a m c news hr.1 hnews h1 hroom hfit] at hrun
        injection hrun with hr1 hr2
        subst hr1
        exact .inl rfl
      · have holds : ∀ j u, xs[j]? = some u → w.cell? ((⟨g, 0, none⟩ : Addr).add j) = some u := hown.cells (g := g) rfl
        rw [run_append_grow (P := P) w t ty e i z ht hi hz ⟨g, 0, none⟩ n cap xs hown.1 holds a m c news hr.1 hnews (by omega) (by omega) (growslice_fits (by omega) hbytes)] at hrun
        injection hrun with hr1 hr2
        subst hr1 hr2
        exact .inr ⟨rfl, ((Mod.refl no w).drew).alloc _⟩

theorem run_append_str_k (t u ty e : TypeId) (i : TypeInfo) (ht : P.underlying t = some (.slice e)) (hu : P.underlying u = some .string) (hi : P.info? e = some i) (hz : i.zero = some (.int .u8 0))
    (hsize : i.size = 1) (hby : i.bytes = 1) (v : Value) (n : Nat) (xs : List Value) (hown : w.ownsRow 0 e 1 v n xs) (s : ByteArray) (h63 : n + s.size ≤ maxLen) (hbytes : n + s.size ≤ 140737488355328) :
    ∃ v' w', (Builtin.append_ #[t, u] ty #[v, .string s]).run P w = .ok v' w' ∧ w'.ownsRow 0 e 1 v' (n + s.size) (xs ++ Lib.strCells s) ∧ w.grownBy w' v.ownBlock ∧ (v'.ownBlock = v.ownBlock ∨ v'.ownBlock = some w.heap.size ∧ Mod no w w') := by
  obtain ⟨v', w', hr, h2, h3, h4⟩ := run_append_str (P := P) w t u ty e i ht hu hi hz hsize hby v n xs hown s h63 hbytes
  refine ⟨v', w', hr, h2, h3, ?_⟩
  have h63' : n + s.size ≤ 9223372036854775807 := by simp only [maxLen] at h63; omega
  rcases hown.2 with ⟨rfl, rfl⟩ | ⟨g, cap, cur, rfl, hbg, hg, hnc, hcm, hcs, htake⟩
  · rcases h4 with h4 | h4
    · exact .inl h4
    · exact .inr ⟨h4, Mod.of_grown h3 fun k hk e => by simp [Value.ownBlock] at e⟩
  · by_cases hroom : n + s.size ≤ cap
    · have hcs' : cur.size = cap := by simpa using hcs
      rw [Lib.run_append_room_string (P := P) w t u ty e i ht hu hi hsize g n cap cur hg s hroom (by omega)] at hr
      injection hr with hr1 hr2
      subst hr1
      exact .inl rfl
    · have hxl : xs.length = n := by simpa using hown.1
      have holds : ∀ j u, xs[j]? = some u → w.cell? ((⟨g, 0, none⟩ : Addr).add j) = some u := hown.cells (g := g) rfl
      rw [Lib.run_append_grow_string (P := P) w t u ty e i (.int .u8 0) ht hu hi hz ⟨g, 0, none⟩ n cap xs (by rw [hsize]; simpa using hxl) holds s (by omega) (by omega) (by rw [hby]; exact growslice_fits (by omega) (by omega))] at hr
      injection hr with hr1 hr2
      subst hr1 hr2
      exact .inr ⟨rfl, ((Mod.refl no w).drew).alloc _⟩
end

theorem RdT.pre {w : World} {A : Option Addr} {l l2 : List UInt8} (h : RdT w A l2) (hp : l <+: l2) : RdT w A l := fun hl => by
  obtain ⟨x, rfl⟩ := hp
  obtain ⟨g, o, cs, e, hb, hc⟩ := h (by intro e; exact hl (List.append_eq_nil_iff.1 e).1)
  refine ⟨g, o, cs, e, hb, fun i hi => ?_⟩
  rw [hc i (by rw [List.length_append]; omega), bvs_append, List.getElem?_append_left (by simpa [bvs] using hi)]

/-- What reads at a block's head, reads as it did: of the row A the first bytes bs. -/
def Safe (w w' : World) (A : Option Addr) (bs : List UInt8) : Prop :=
  ∀ b l, RdT w (some ⟨b, 0, none⟩) l → (atA A b → l <+: bs) → RdT w' (some ⟨b, 0, none⟩) l

theorem Safe.at_ {w w' : World} {S : Nat → Prop} {A : Option Addr} {bs : List UInt8} (hm : Mod S w w') (hs : ∀ b cs l, Blk w b 5 cs → RdT w (some ⟨b, 0, none⟩) l → (atA A b → l <+: bs) → S b → RdT w' (some ⟨b, 0, none⟩) l) : Safe w w' A bs := by
  intro b l hr hc hl
  obtain ⟨g, o, cs, e, hb, hcs⟩ := hr hl
  injection e with e
  injection e with e1 e2
  subst e1 e2
  by_cases hS : S b
  · exact hs b cs l hb hr hc hS hl
  · exact ⟨b, 0, cs, rfl, hb.mod hm hS, hcs⟩
theorem Safe.no {w w' : World} {A : Option Addr} {bs : List UInt8} (hm : Mod no w w') : Safe w w' A bs := Safe.at_ hm fun _ _ _ _ _ _ c => c.elim
theorem Safe.one {w w' : World} {g : Nat} {A : Option Addr} {bs : List UInt8} {cs : Array Value} {t : TypeId} (hg : Blk w g t cs) (ht : t ≠ 5) (hm : Mod (one g) w w') : Safe w w' A bs :=
  Safe.at_ hm fun b cs' l hb _ _ c => by
    have c : b = g := c
    subst c
    exact absurd (hg.same hb).1 ht

/-- From one row to the next. -/
def nextK (w : World) (A : Option Addr) (bs : List UInt8) (w' : World) (A' : Option Addr) (bs' : List UInt8) : Prop := nextA w A A' ∧ bs <+: bs' ∧ Safe w w' A bs

theorem nextK.trans {w w1 w2 : World} {A A1 A2 : Option Addr} {bs bs1 bs2 : List UInt8} (h : nextK w A bs w1 A1 bs1) (h' : nextK w1 A1 bs1 w2 A2 bs2) (hs : w.heap.size ≤ w1.heap.size) : nextK w A bs w2 A2 bs2 := by
  obtain ⟨n1, p1, s1⟩ := h
  obtain ⟨n2, p2, s2⟩ := h'
  refine ⟨n1.trans n2 hs, p1.trans p2, fun b l hr hc => s2 b l (s1 b l hr hc) fun hb => ?_⟩
  rcases n1 with rfl | ⟨b', hb', rfl⟩
  · exact (hc hb).trans p1
  · injection hb with hb
    injection hb with hb
    by_cases hl : l = []
    · subst hl; exact List.nil_prefix
    · obtain ⟨g, o, cs, e, hbk, _⟩ := hr hl
      injection e with e
      injection e with e1 e2
      subst e1
      have := hbk.lt
      omega
theorem nextK.no {w w' : World} (A : Option Addr) (bs : List UInt8) (hm : Mod no w w') : nextK w A bs w' A bs := ⟨nextA.refl _ _, List.prefix_rfl, Safe.no hm⟩

theorem nextK_of {w w' : World} {A : Option Addr} {c n : Nat} {bs news : List UInt8} {v' : Value} (hrow : RowA w A c bs) (hv : w'.ownsRow 0 5 1 v' n (bvs (bs ++ news))) (hn : (bs ++ news).length = n)
    (hat : v'.ownBlock = (Value.slice A bs.length c).ownBlock ∨ v'.ownBlock = some w.heap.size ∧ Mod no w w') (hM : Mod (atA A) w w') : ∃ A' c', v' = .slice A' (bs ++ news).length c' ∧ nextK w A bs w' A' (bs ++ news) ∧ RowA w' A' c' (bs ++ news) := by
  obtain ⟨A', c', e, hA, hR⟩ := next_of (bs' := bs ++ news) hrow hv hn (hat.imp id And.left)
  refine ⟨A', c', e, ⟨hA, List.prefix_append _ _, ?_⟩, hR⟩
  rcases hat with hat | ⟨_, hm⟩
  · refine Safe.at_ hM fun b cs l hb hr hc hS => ?_
    have hAA : A' = A := by
      rcases hA with h | ⟨b', hb', h⟩
      · exact h
      · subst e h
        obtain ⟨b2, cur, e2, hb2⟩ := hrow.at_blk (show A = _ from hS)
        rw [show A = _ from hS] at hat
        simp [Value.ownBlock] at hat
        subst hat
        have := hb.lt
        omega
    rw [← show A = some ⟨b, 0, none⟩ from hS, ← hAA]
    exact RdT.pre hR.rdt ((hc hS).trans (List.prefix_append _ _))
  · exact Safe.no hm

set_option maxRecDepth 100000 in
theorem wpList_encK {ops : Array Oper} {rest : List Oper} {o : Oper} {a : Act} {Q : Exit → Act → World → Prop} (hgd : o.guard = none) (s x : Operand)
    (ho : o.op = .call { callee := .builtin .append, args := #[s, x], argTypes := #[23, 23] })
    (w : World) (A : Option Addr) (c n : Nat) (bs : List UInt8) (hn : n = bs.length) (hs : a.eval s = .slice A n c) (hrow : RowA w A c bs)
    (A2 : Option Addr) (m c2 : Nat) (news : List UInt8) (hm : m = news.length) (hx : a.eval x = .slice A2 m c2) (hr : Rds w 1 A2 m (bvs news)) (hlen : bs.length + m ≤ 140737488000000)
    (h : ∀ A' c' w', nextK w A bs w' A' (bs ++ news) → RowA w' A' c' (bs ++ news) → Mod (atA A) w w' → wpList Try.prog ops Q rest (a.put o.dst (.slice A' (bs ++ news).length c')) w') :
    wpList Try.prog ops Q (o :: rest) a w := by
  subst hn hm
  obtain ⟨i0, hi, hz0, hz1, hz2⟩ := info_parts u8_info
  refine wpList_plain hgd fun K hK => ?_
  obtain ⟨v', w', hrun, h2, h3, h4⟩ := run_append_k (P := Try.prog) w 0 _ o.type 5 i0 (.int .u8 0) 1 1 Try.underlying23 hi hz0 hz1 hz2 rfl (by decide) (.slice A bs.length c) bs.length (bvs bs) hrow A2 news.length c2 (bvs news) hr (bvs_one news) (by simp only [maxLen]; omega) (by omega) (Nat.zero_le _)
  unfold Oper.wp execOp
  simp only [ho, resolve, invoke, builtin, Sem.run_bind, Sem.run_pure, Result.andThen_ok, List.map_toArray, List.map_cons, List.map_nil, hs, hx, hrun]
  rw [← bvs_append] at h2
  obtain ⟨A', c', rfl, hA, hrow'⟩ := nextK_of hrow h2 (by simp) h4 (mod_row hrow h3)
  exact hK _ _ (h A' c' w' hA hrow' (mod_row hrow h3))

/-- 'append(b, u)': the one byte lies in a new block. -/
theorem wpList_encK1 {ops : Array Oper} {rest : List Oper} {o : Oper} {a : Act} {Q : Exit → Act → World → Prop} (hgd : o.guard = none) (s x : Operand)
    (ho : o.op = .call { callee := .builtin .append, args := #[s, x], argTypes := #[23, 23] })
    (w : World) (A : Option Addr) (c n : Nat) (bs : List UInt8) (hn : n = bs.length) (hs : a.eval s = .slice A n c) (hrow : RowA w A c bs) (b : UInt8) (z : Int) (hz : z = (b.toNat : Int))
    (hx : a.eval x = .slice (some ⟨w.heap.size, 0, none⟩) 1 1) (hlen : bs.length + 1 ≤ 140737488000000)
    (h : ∀ A' c' w', nextK w A bs w' A' (bs ++ [b]) → RowA w' A' c' (bs ++ [b]) → Mod (atA A) w w' → wpList Try.prog ops Q rest (a.put o.dst (.slice A' (bs ++ [b]).length c')) w') :
    wpList Try.prog ops Q (o :: rest) a (w.alloc (.cells #[.int .u8 z] 5)) := by
  subst hz
  have M0 : Mod no w (w.alloc (.cells #[.int .u8 (b.toNat : Int)] 5)) := (Mod.refl _ _).alloc _
  refine wpList_encK hgd s x ho _ A c n bs hn hs (hrow.mod M0 (fun _ _ c => c)) _ 1 1 [b] rfl hx (Rds.one_new w _ _) hlen ?_
  intro A' c' w' hA hR hM
  refine h A' c' w' ((nextK.no A bs M0).trans hA M0.size) hR ((M0.mono (S' := atA A) (fun _ _ c => False.elim c)).and_then hM)

/-- 'append(b, s...)', s a text. -/
theorem wpList_encKs {ops : Array Oper} {rest : List Oper} {o : Oper} {a : Act} {Q : Exit → Act → World → Prop} (hgd : o.guard = none) (s x : Operand)
    (ho : o.op = .call { callee := .builtin .append, args := #[s, x], argTypes := #[23, 9] })
    (w : World) (A : Option Addr) (c n : Nat) (bs : List UInt8) (hn : n = bs.length) (hs : a.eval s = .slice A n c) (hrow : RowA w A c bs)
    (news : List UInt8) (hx : a.eval x = .string ⟨news.toArray⟩) (hlen : bs.length + news.length ≤ 140737488000000)
    (h : ∀ A' c' w', nextK w A bs w' A' (bs ++ news) → RowA w' A' c' (bs ++ news) → Mod (atA A) w w' → wpList Try.prog ops Q rest (a.put o.dst (.slice A' (bs ++ news).length c')) w') :
    wpList Try.prog ops Q (o :: rest) a w := by
  subst hn
  obtain ⟨i0, hi, hz0, hz1, hz2⟩ := info_parts u8_info
  have hsz : (ByteArray.mk news.toArray).size = news.length := rfl
  refine wpList_plain hgd fun K hK => ?_
  obtain ⟨v', w', hr, h2, h3, h4⟩ := run_append_str_k (P := Try.prog) w 23 9 o.type 5 i0 Try.underlying23 Try.underlying9 hi hz0 hz1 hz2 _ _ _ hrow ⟨news.toArray⟩ (by rw [hsz]; simp only [maxLen]; omega) (by rw [hsz]; omega)
  unfold Oper.wp execOp
  simp only [ho, resolve, invoke, builtin, Sem.run_bind, Sem.run_pure, Result.andThen_ok, List.map_toArray, List.map_cons, List.map_nil, hs, hx, hr]
  rw [strCells_bvs, ← bvs_append] at h2
  obtain ⟨A', c', rfl, hA, hrow'⟩ := nextK_of hrow h2 (by rw [hsz]; simp) h4 (mod_row hrow h3)
  exact hK _ _ (h A' c' w' hA hrow' (mod_row hrow h3))

end Go.Proofs.Ytpfkcejndjnbhaa.EK
