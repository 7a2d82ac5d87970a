/- What is added to: appends onto the Enc's own row; its length, its bytes. -/
import Derived.Test.YtpfkcejndjnbhaaEnc
namespace Go.Proofs.Ytpfkcejndjnbhaa.EN
open Go.RowKit Mem WM
open Go.Proofs.Ytpfkcejndjnbhaa.WD (RdT RdB u8_info own_mod clone_any own_lower)
open Go.Proofs.Ytpfkcejndjnbhaa.OP (atA)
set_option linter.unusedVariables false
set_option linter.unusedSimpArgs false

theorem next_of {w w' : World} {A : Option Addr} {c n : Nat} {bs bs' : List UInt8} {v' : Value} (hrow : RowA w A c bs) (hv : w'.ownsRow 0 5 1 v' n (bvs bs')) (hn : bs'.length = n)
    (hat : v'.ownBlock = (Value.slice A bs.length c).ownBlock ∨ v'.ownBlock = some w.heap.size) : ∃ A' c', v' = .slice A' bs'.length c' ∧ nextA w A A' ∧ RowA w' A' c' bs' := by
  subst hn
  obtain ⟨A', c', rfl⟩ := own_form hv
  refine ⟨A', c', rfl, ?_, hv⟩
  have h1 : ∀ ad, A' = some ad → ∃ b, ad = ⟨b, 0, none⟩ := fun ad h => by
    obtain ⟨b, cur, e, _⟩ := RowA.at_blk (show RowA w' A' c' bs' from hv) h
    exact ⟨b, e⟩
  have h2 : ∀ ad, A = some ad → ∃ b, ad = ⟨b, 0, none⟩ := fun ad h => by
    obtain ⟨b, cur, e, _⟩ := RowA.at_blk hrow h
    exact ⟨b, e⟩
  cases A' with
  | none =>
    cases A with
    | none => exact .inl rfl
    | some ad => rcases hat with h | h <;> simp [Value.ownBlock] at h
  | some ad' =>
    obtain ⟨b', rfl⟩ := h1 _ rfl
    rcases hat with h | h
    · cases A with
      | none => simp [Value.ownBlock] at h
      | some ad =>
        obtain ⟨b, rfl⟩ := h2 _ rfl
        simp [Value.ownBlock] at h
        subst h
        exact .inl rfl
    · simp [Value.ownBlock] at h
      exact .inr ⟨b', by omega, rfl⟩

theorem mod_row {w w' : World} {A : Option Addr} {c : Nat} {bs : List UInt8} (hrow : RowA w A c bs) (hg : w.grownBy w' (Value.slice A bs.length c).ownBlock) : Mod (atA A) w w' :=
  Mod.of_grown hg fun k hk e => by
    cases A with
    | none => simp [Value.ownBlock] at e
    | some ad =>
      obtain ⟨b, cur, rfl, _⟩ := RowA.at_blk hrow rfl
      simp [Value.ownBlock] at e
      subst e; rfl

set_option maxRecDepth 100000 in
/-- 'append(b, x...)', b the Enc's own row, x whatever reads as bytes. -/
theorem wpList_enc {ops : Array Oper} {rest : List Oper} {o : Oper} {a : Act} {Q : Exit → Act → World → Prop} (hgd : o.guard = none) (s x : Operand)
    (ho : o.op = .call { callee := .builtin .append, args := #[s, x], argTypes := #[23, 23] })
    (w : World) (A : Option Addr) (c n : Nat) (bs : List UInt8) (hn : n = bs.length) (hs : a.eval s = .slice A n c) (hrow : RowA w A c bs)
    (A2 : Option Addr) (m c2 : Nat) (news : List UInt8) (hm : m = news.length) (hx : a.eval x = .slice A2 m c2) (hr : Rds w 1 A2 m (bvs news)) (hlen : bs.length + m ≤ 140737488000000)
    (h : ∀ A' c' w', nextA w A A' → RowA w' A' c' (bs ++ news) → Mod (atA A) w w' → wpList Try.prog ops Q rest (a.put o.dst (.slice A' (bs ++ news).length c')) w') :
    wpList Try.prog ops Q (o :: rest) a w := by
  subst hn hm
  obtain ⟨i0, hi, hz0, hz1, hz2⟩ := info_parts u8_info
  refine wpList_append w hgd s x _ ho 0 5 i0 (.int .u8 0) 1 1 Try.underlying23 hi hz0 hz1 hz2 rfl (by decide) (.slice A bs.length c) bs.length (bvs bs) hs hrow A2 news.length c2 (bvs news) hx hr (bvs_one news) (by simp only [maxLen]; omega) (by omega) (Nat.zero_le _) ?_
  intro v1 w1 hown hg hat hnn
  rw [← bvs_append] at hown
  obtain ⟨A', c', rfl, hA, hrow'⟩ := next_of hrow hown (by simp) hat
  exact h A' c' w1 hA hrow' (mod_row hrow hg)

/-- 'append(b, u)': the one byte lies in a new block. -/
theorem wpList_enc1 {ops : Array Oper} {rest : List Oper} {o : Oper} {a : Act} {Q : Exit → Act → World → Prop} (hgd : o.guard = none) (s x : Operand)
    (ho : o.op = .call { callee := .builtin .append, args := #[s, x], argTypes := #[23, 23] })
    (w : World) (A : Option Addr) (c n : Nat) (bs : List UInt8) (hn : n = bs.length) (hs : a.eval s = .slice A n c) (hrow : RowA w A c bs) (b : UInt8) (z : Int) (hz : z = (b.toNat : Int))
    (hx : a.eval x = .slice (some ⟨w.heap.size, 0, none⟩) 1 1) (hlen : bs.length + 1 ≤ 140737488000000)
    (h : ∀ A' c' w', nextA w A A' → RowA w' A' c' (bs ++ [b]) → Mod (atA A) w w' → wpList Try.prog ops Q rest (a.put o.dst (.slice A' (bs ++ [b]).length c')) w') :
    wpList Try.prog ops Q (o :: rest) a (w.alloc (.cells #[.int .u8 z] 5)) := by
  subst hz
  have M0 : Mod no w (w.alloc (.cells #[.int .u8 (b.toNat : Int)] 5)) := (Mod.refl _ _).alloc _
  refine wpList_enc hgd s x ho _ A c n bs hn hs (hrow.mod M0 (fun _ _ c => c)) _ 1 1 [b] rfl hx (Rds.one_new w _ _) hlen ?_
  intro A' c' w' hA hR hM
  refine h A' c' w' ((nextA.refl w A).trans hA M0.size) hR ((M0.mono (S' := atA A) (fun _ _ c => False.elim c)).and_then hM)

section
variable {P : Program} (w : World)
theorem run_append_str (t u ty e : TypeId) (i : TypeInfo) (ht : P.underlying t = some (.slice e)) (hu : P.underlying u = some .string) (hi : P.info? e = some i) (hz : i.zero = some (.int .u8 0))
    (hsize : i.size = 1) (hby : i.bytes = 1) (v : Value) (n : Nat) (xs : List Value) (hown : w.ownsRow 0 e 1 v n xs) (s : ByteArray) (h63 : n + s.size ≤ maxLen) (hbytes : n + s.size ≤ 140737488355328) :
    ∃ v' w', (Builtin.append_ #[t, u] ty #[v, .string s]).run P w = .ok v' w' ∧ w'.ownsRow 0 e 1 v' (n + s.size) (xs ++ Lib.strCells s) ∧ w.grownBy w' v.ownBlock ∧ (v'.ownBlock = v.ownBlock ∨ v'.ownBlock = some w.heap.size) := by
  obtain ⟨v', w', hr, h2, h3, h4⟩ := Lib.run_append_own_string (P := P) w 0 t u ty e i ht hu hi hz hsize hby v n xs hown s h63 hbytes (Nat.zero_le _)
  refine ⟨v', w', hr, h2, h3, ?_⟩
  have hxl : xs.length = n := by simpa using hown.1
  have h63' : n + s.size ≤ 9223372036854775807 := by simp only [maxLen] at h63; omega
  rcases hown.2 with ⟨rfl, rfl⟩ | ⟨g, cap, cur, rfl, hbg, hg, hnc, hcm, hcs, htake⟩
  · by_cases hm : s.size = 0
    · have := h4.2 ⟨rfl, hm⟩
      subst this
      exact .inl rfl
    · have hrn := run_append_nil_string (P := P) w t u ty e i (.int .u8 0) ht hu hi hz s (by omega) (by omega) (by rw [hby]; omega)
      rw [hrn] at hr
      injection hr with hr1 hr2
      subst hr1
      exact .inr rfl
  · by_cases hroom : n + s.size ≤ cap
    · have hcs' : cur.size = cap := by simpa using hcs
      have hrr := Lib.run_append_room_string (P := P) w t u ty e i ht hu hi hsize g n cap cur hg s hroom (by omega)
      rw [hrr] at hr
      injection hr with hr1 hr2
      subst hr1
      exact .inl rfl
    · have holds : ∀ j u, xs[j]? = some u → w.cell? ((⟨g, 0, none⟩ : Addr).add j) = some u := hown.cells (g := g) rfl
      have hrg := Lib.run_append_grow_string (P := P) w t u ty e i (.int .u8 0) ht hu hi hz ⟨g, 0, none⟩ n cap xs (by rw [hsize]; simpa using hxl) holds s (by omega) (by omega) (by rw [hby]; exact growslice_fits (by omega) (by omega))
      rw [hrg] at hr
      injection hr with hr1 hr2
      subst hr1
      exact .inr rfl
end

theorem strCells_bvs (l : List UInt8) : Lib.strCells ⟨l.toArray⟩ = bvs l := by simp [Lib.strCells, bvs, bv]

/-- 'append(b, s...)', s a text. -/
theorem wpList_encs {ops : Array Oper} {rest : List Oper} {o : Oper} {a : Act} {Q : Exit → Act → World → Prop} (hgd : o.guard = none) (s x : Operand)
    (ho : o.op = .call { callee := .builtin .append, args := #[s, x], argTypes := #[23, 9] })
    (w : World) (A : Option Addr) (c n : Nat) (bs : List UInt8) (hn : n = bs.length) (hs : a.eval s = .slice A n c) (hrow : RowA w A c bs)
    (news : List UInt8) (hx : a.eval x = .string ⟨news.toArray⟩) (hlen : bs.length + news.length ≤ 140737488000000)
    (h : ∀ A' c' w', nextA w A A' → RowA w' A' c' (bs ++ news) → Mod (atA A) w w' → wpList Try.prog ops Q rest (a.put o.dst (.slice A' (bs ++ news).length c')) w') :
    wpList Try.prog ops Q (o :: rest) a w := by
  subst hn
  obtain ⟨i0, hi, hz0, hz1, hz2⟩ := info_parts u8_info
  have hsz : (ByteArray.mk news.toArray).size = news.length := rfl
  refine wpList_plain hgd fun K hK => ?_
  obtain ⟨v', w', hr, h2, h3, h4⟩ := run_append_str (P := Try.prog) w 23 9 o.type 5 i0 Try.underlying23 Try.underlying9 hi hz0 hz1 hz2 _ _ _ hrow ⟨news.toArray⟩ (by rw [hsz]; simp only [maxLen]; omega) (by rw [hsz]; omega)
  unfold Oper.wp execOp
  simp only [ho, resolve, invoke, builtin, Sem.run_bind, Sem.run_pure, Result.andThen_ok, List.map_toArray, List.map_cons, List.map_nil, hs, hx, hr]
  rw [strCells_bvs, ← bvs_append] at h2
  obtain ⟨A', c', rfl, hA, hrow'⟩ := next_of hrow h2 (by rw [hsz]; simp) h4
  exact hK _ _ (h A' c' w' hA hrow' (mod_row hrow h3))

set_option maxRecDepth 100000 in
theorem len_any {w : World} {g : Nat} {A : Option Addr} {bs : List UInt8} (h : EncR w g A bs) :
    Calls Try.prog 13 #[.pointer (some ⟨g, 0, none⟩)] w fun e w' => e = .returned (.int .i64 (bs.length : Int)) ∧ w = w' := by
  obtain ⟨A0, c, ow, hb⟩ : ∃ A0 c ow, Blk w g 26 #[.slice A0 bs.length c, ow] := by
    rcases h with ⟨c, hb, _⟩ | ⟨_, A0, c, ow, hb, _⟩
    · exact ⟨_, _, _, hb⟩
    · exact ⟨_, _, _, hb⟩
  have c0 := hb.cell 0
  simp at c0
  clear h
  go_enter Try.func13, Try.ntmps13
  go_wp2_with fail
  go_ret
  exact ⟨rfl, rfl⟩

set_option maxRecDepth 100000 in
theorem bytes_any {w : World} {g : Nat} {A : Option Addr} {bs : List UInt8} (h : EncR w g A bs) (hl : bs.length ≤ 140737488355328) :
    Calls Try.prog 12 #[.pointer (some ⟨g, 0, none⟩)] w fun e w' => ∃ A' c', e = .returned (.slice A' bs.length c') ∧ w'.ownsRow w.heap.size 5 1 (.slice A' bs.length c') bs.length (bvs bs) ∧ Mod no w w' := by
  obtain ⟨A0, c, ow, hb, hr⟩ : ∃ A0 c ow, Blk w g 26 #[.slice A0 bs.length c, ow] ∧ RdT w A0 bs := by
    rcases h with ⟨c, hb, hr⟩ | ⟨_, A0, c, ow, hb, hr, _⟩
    · exact ⟨_, _, _, hb, hr.rdt⟩
    · exact ⟨_, _, _, hb, hr⟩
  have c0 := hb.cell 0
  simp at c0
  have HR := Lib.hid hr
  have HL := Lib.hid hl
  clear h hr hl
  go_enter Try.func12, Try.ntmps12
  go_wp2_with (first | (go_at_call 50; refine (clone_any HR.out HL.out).mono ?_; rintro e w1 ⟨A', c', rfl, hown, M1⟩; have HO := Lib.hid hown; have HM := Lib.hid M1; clear hown M1))
  go_ret
  exact ⟨A', c', rfl, HO.out, HM.out⟩

end Go.Proofs.Ytpfkcejndjnbhaa.EN
