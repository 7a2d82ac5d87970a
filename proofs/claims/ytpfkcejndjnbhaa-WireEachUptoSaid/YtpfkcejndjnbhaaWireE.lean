/- The program's taker: lists of bytes, where it stands, what is left, its end. -/
import Derived.Test.YtpfkcejndjnbhaaWireK
namespace Go.Proofs.Ytpfkcejndjnbhaa.WD
open Go.RowKit Mem WM
set_option linter.unusedVariables false
set_option linter.unusedSimpArgs false

theorem own_mod {S : Nat → Prop} {w w' : World} {base : Nat} {e : TypeId} {size : Nat} {v : Value} {n : Nat} {xs : List Value} (h : w.ownsRow base e size v n xs) (hm : Mod S w w') (hs : ∀ k, base ≤ k → ¬ S k) : w'.ownsRow base e size v n xs := by
  refine ⟨h.1, ?_⟩
  rcases h.2 with h2 | ⟨g, cap, cur, hv, hg, hb, r⟩
  · exact .inl h2
  · exact .inr ⟨g, cap, cur, hv, hg, Blk.mod (show Blk w g e cur from hb) hm (hs g hg), r⟩

theorem fix1_ok {bs : List UInt8} {p : Nat} (h : p < bs.length) : fixA bs (.live p) 1 = (.live (p + 1), bs[p].toNat) := by
  have hr : rawA bs (.live p) 1 = (.live (p + 1), (bs.drop p).take 1) := by simp only [rawA]; rw [if_neg (by decide), if_pos (by show 1 ≤ bs.length - p; omega)]; rfl
  show ((rawA bs (.live p) 1).1, le (rawA bs (.live p) 1).2) = _
  rw [hr]
  have : (bs.drop p).take 1 = [bs[p]] := by
    rw [List.drop_eq_getElem_cons h]; rfl
  rw [this]; simp [le]
theorem fix1_no {bs : List UInt8} {p : Nat} (h : ¬ p < bs.length) : fixA bs (.live p) 1 = (.dead p 10, 0) := by
  have hr : rawA bs (.live p) 1 = (.dead p 10, []) := by simp only [rawA]; rw [if_neg (by decide), if_neg (by show ¬ 1 ≤ bs.length - p; omega)]
  show ((rawA bs (.live p) 1).1, le (rawA bs (.live p) 1).2) = _
  rw [hr]; rfl

set_option maxRecDepth 100000 in
theorem one_any {w : World} {g gb : Nat} {bs : List UInt8} {s : St} (h : DecAt w g gb bs s) :
    Calls Try.prog 70 #[.pointer (some ⟨g, 0, none⟩)] w fun e w' =>
      e = .returned (.int .u8 (IntKind.u8.wrap ((fixA bs s 1).2 : Int))) ∧ DecAt w' g gb bs (fixA bs s 1).1 ∧ Mod (one g) w w' := by
  have H := Lib.hid h
  clear h
  go_enter Try.func70, Try.ntmps70
  go_wp2_with fail
  refine (take_uint8 H.out).mono ?_
  rintro e w' ⟨rfl, D, M⟩
  have HD := Lib.hid D
  clear D
  go_wp2_with fail
  go_ret
  exact ⟨rfl, HD.out, M⟩

/-- A live one: the byte, or it stops. -/
theorem one_ok {w : World} {g gb : Nat} {bs : List UInt8} {p : Nat} (h : LiveAt w g gb bs p) (hp : p < bs.length) :
    Calls Try.prog 70 #[.pointer (some ⟨g, 0, none⟩)] w fun e w' =>
      e = .returned (.int .u8 (bs[p].toNat : Int)) ∧ LiveAt w' g gb bs (p + 1) ∧ Mod (one g) w w' := by
  refine (one_any (s := .live p) h).mono ?_
  rintro e w' ⟨rfl, D, M⟩
  rw [fix1_ok hp] at D ⊢
  have := byte_lt bs[p]
  exact ⟨by rw [show IntKind.u8.wrap ((bs[p].toNat : Nat) : Int) = (bs[p].toNat : Int) from IntWalk.u8_in _ (by omega)], D, M⟩
theorem one_no {w : World} {g gb : Nat} {bs : List UInt8} {p : Nat} (h : LiveAt w g gb bs p) (hp : ¬ p < bs.length) :
    Calls Try.prog 70 #[.pointer (some ⟨g, 0, none⟩)] w fun e w' =>
      e = .returned (.int .u8 0) ∧ DeadAt w' g bs p 10 ∧ Mod (one g) w w' := by
  refine (one_any (s := .live p) h).mono ?_
  rintro e w' ⟨rfl, D, M⟩
  rw [fix1_no hp] at D ⊢
  exact ⟨rfl, D, M⟩

theorem run_equalIn_func_nil {P : Program} (w : World) (d : Nat) (t : TypeId) (ps rs : Array TypeId) (v : Bool) (f : Fn) (x y : Array Value) (h : P.underlying t = some (.func ps rs v)) :
    (Op.equalIn (d + 1) t (.func f x y) .nilFunc).run P w = .ok false w := by
  simp [Op.equalIn, run_underlying h]
theorem run_eql_func_nil {P : Program} (w : World) (t : TypeId) (ps rs : Array TypeId) (v : Bool) (f : Fn) (x y : Array Value) (h : P.underlying t = some (.func ps rs v)) :
    (binOp .eql t (.func f x y) .nilFunc).run P w = .ok (.bool false) w := by
  simp only [binOp]
  simp [Op.equal, Op.maxDepth, run_equalIn_func_nil w 9999 t ps rs v f x y h]

/-- The rows of e that lie at base or above. -/
def rowS (w : World) (base : Nat) (e : TypeId) : Nat → Prop := fun k => base ≤ k ∧ ∃ cs, Blk w k e cs

/-- 'append(v, u)', v a row of the call's own, one cell each. -/
theorem wpList_put1 {ops : Array Oper} {rest : List Oper} {o : Oper} {a : Act} {Q : Exit → Act → World → Prop} (hgd : o.guard = none) (s x : Operand) (t : TypeId)
    (ho : o.op = .call { callee := .builtin .append, args := #[s, x], argTypes := #[t, t] })
    (base : Nat) (e : TypeId) (i : TypeInfo) (z : Value) (bytes : Nat) (ht : Try.prog.underlying t = some (.slice e)) (hi : Try.prog.info? e = some i) (hz : i.zero = some z)
    (hsize : i.size = 1) (hby : i.bytes = bytes) (hzs : z.cells.size = 1) (w : World) (A : Option Addr) (c j : Nat) (xs : List Value) (u : Value) (hs : a.eval s = .slice A j c)
    (hx : a.eval x = .slice (some ⟨w.heap.size, 0, none⟩) 1 1) (hown : w.ownsRow base e 1 (.slice A j c) j xs) (hu : u.oneCell' = true)
    (h63 : j + 1 ≤ maxLen) (hbytes : (j + 1) * bytes ≤ 140737488355328) (hbase : base ≤ w.heap.size)
    (h : ∀ A' c' w', w'.ownsRow base e 1 (.slice A' (j + 1) c') (j + 1) (xs ++ [u]) → Mod (rowS w base e) w w' → wpList Try.prog ops Q rest (a.put o.dst (.slice A' (j + 1) c')) w') :
    wpList Try.prog ops Q (o :: rest) a (w.alloc (.cells #[u] e)) := by
  have hM : Mod no w (w.alloc (.cells #[u] e)) := (Mod.refl no w).alloc _
  have hb : Blk (w.alloc (.cells #[u] e)) w.heap.size e #[u] := Blk.new w _ _
  refine wpList_append _ hgd s x t ho base e i z 1 bytes ht hi hz hsize hby hzs (by decide) (.slice A j c) j xs hs (own_mod hown hM (fun _ _ c => c)) (some ⟨w.heap.size, 0, none⟩) 1 1 [u] hx ⟨rfl, fun _ => ⟨_, rfl, ?_⟩⟩ ?_ h63 hbytes (by rw [World.size_alloc]; omega) ?_
  · intro k v hk
    rcases k with _ | k
    · simp at hk; subst hk; rw [Addr.add_mid]; rw [hb.cell]; rfl
    · simp at hk
  · intro v hv; simp at hv; subst hv; exact hu
  · intro v' w' ho' hg hat hnn
    obtain ⟨A', c', rfl⟩ := own_form ho'
    refine h A' c' w' ho' ?_
    refine ((Mod.refl (rowS w base e) w).alloc (.cells #[u] e)).trans (Mod.of_grown (S := rowS w base e) hg ?_) (fun _ _ c => c)
    intro k hk e'
    rcases hown.2 with ⟨hv, _⟩ | ⟨g, cap, cur, hv, hbg, hgb, _⟩
    · rw [hv] at e'; simp [Value.ownBlock] at e'
    · rw [hv] at e'; simp [Value.ownBlock] at e'; subst e'; exact ⟨hbg, cur, hgb⟩

theorem rowS_dec {w w' : World} {g gb : Nat} {bs : List UInt8} {s : St} {base : Nat} {e : TypeId} (h : DecAt w g gb bs s) (hm : Mod (rowS w base e) w w') (hg : g < base) (hgb : bs ≠ [] → gb < base) (he : e ≠ 58) : DecAt w' g gb bs s :=
  h.mod hm (fun c => by have := c.1; omega) (fun hne c => by have := hgb hne; have := c.1; omega) (fun k cs hk c => by
    obtain ⟨_, cs', hk'⟩ := c
    have e' := hk.symm.trans hk'
    simp at e'
    exact he e'.2.symm)

/-- What the loop of Each carries. -/
def EachInv (w : World) (g gb : Nat) (bs : List UInt8) (p : Nat) (n : Int) (q m : Nat) (v k : Value) (wr : World) : Prop :=
  ∃ (r j : Nat) (xs : List UInt8), k = .int .u64 (r : Int) ∧ wr.ownsRow w.heap.size 5 1 v j (bvs xs) ∧ j + r ≤ m ∧ j ≤ bs.length + 1 ∧ Mod (one g) w wr ∧
    ((LiveAt wr g gb bs (q + j) ∧ q + j ≤ bs.length ∧ j + r = m ∧ xs = (bs.drop q).take j ∧ varGo bs p n.toNat 10 0 0 = (.live q, m)) ∨
     ∃ a c, DeadAt wr g bs a c ∧ listA bs (.live p) n = (.dead a c, []))



theorem gtr_u64 (W : World) (r : Int) (h : 0 < r) : (binOp .gtr 28 (.int .u64 r) (.int .u64 0)).run Try.prog W = .ok (.bool true) W := by
  simp [go_sem, h]

theorem varGo_dead (bs : List UInt8) (p most : Nat) : ∀ f i v a c n, varGo bs p most f i v = (.dead a c, n) → n = 0 := by
  intro f
  induction f with
  | zero => intro i v a c n h; simp [varGo] at h
  | succ f ih =>
    intro i v a c n h
    unfold varGo at h
    cases hb : bs[p + i]? with
    | none => rw [hb] at h; simp at h; exact h.2.symm
    | some b =>
      rw [hb] at h
      simp only at h
      split at h
      · simp at h; exact h.2.symm
      · split at h
        · split at h
          · simp at h; exact h.2.symm
          · split at h
            · simp at h; exact h.2.symm
            · simp at h
        · exact ih _ _ _ _ _ h

theorem listA_dead {bs : List UInt8} {p a c k : Nat} {n : Int} (h : varGo bs p n.toNat 10 0 0 = (.dead a c, k)) : listA bs (.live p) n = (.dead a c, []) := by simp only [listA, h]
theorem listA_ok {bs : List UInt8} {p q m : Nat} {n : Int} (h : varGo bs p n.toNat 10 0 0 = (.live q, m)) (hm : m ≤ bs.length - q) : listA bs (.live p) n = (.live (q + m), (bs.drop q).take m) := by simp only [listA, h]; rw [if_pos hm]
theorem listA_no {bs : List UInt8} {p q m : Nat} {n : Int} (h : varGo bs p n.toNat 10 0 0 = (.live q, m)) (hm : ¬ m ≤ bs.length - q) : listA bs (.live p) n = (.dead bs.length 10, []) := by simp only [listA, h]; rw [if_neg hm]

set_option maxRecDepth 100000 in
set_option maxHeartbeats 1000000 in
theorem each_u8 {w : World} {g gb : Nat} {bs : List UInt8} {s : St} (n : Int) (h : DecAt w g gb bs s) (hb : bs.length ≤ 70368744177664) (hgb : bs ≠ [] → gb < w.heap.size) (hn1 : -9223372036854775808 ≤ n) (hn2 : n ≤ 9223372036854775807) :
    Calls Try.prog 69 #[.pointer (some ⟨g, 0, none⟩), .int .i64 n, .func (.func 70) #[] #[]] w fun e w' =>
      ∃ A' c', e = .returned (.slice A' (listA bs s n).2.length c') ∧ w'.ownsRow w.heap.size 5 1 (.slice A' (listA bs s n).2.length c') (listA bs s n).2.length (bvs (listA bs s n).2) ∧ DecAt w' g gb bs (listA bs s n).1 ∧ Mod (one g) w w' := by
  have hgt := h.typ
  obtain ⟨ct, hct⟩ := hgt
  have hg := hct.lt
  clear hct ct
  cases s with
  | dead a e =>
    have H := Lib.hid h
    clear h
    go_enter Try.func69, Try.ntmps69
    go_wp2_with (go_at_call 51; refine (over_dead H.out).mono ?_; rintro e w' ⟨rfl, rfl⟩)
    go_ret
    exact ⟨none, 0, rfl, ⟨rfl, .inl ⟨rfl, rfl⟩⟩, H.out, Mod.refl _ _⟩
  | live p =>
    have heq := fun (W : World) => run_eql_func_nil (P := Try.prog) W 107 _ _ _ (.func 70) #[] #[] Try.underlying107
    have H := Lib.hid h
    have hp : p ≤ bs.length := h.fit
    clear h
    by_cases hneg : n ≤ 0
    all_goals
      go_enter Try.func69, Try.ntmps69
      go_wp2_with (go_at_call 51; refine (over_live H.out).mono ?_; rintro e w' ⟨rfl, rfl⟩)
      refine (var_go n.toNat _ H.out (by omega) (by omega) (by omega)).mono ?_
      rintro e w1 ⟨s1, m, HV, rfl, D1, M1⟩
      obtain ⟨q, hI⟩ : ∃ q, EachInv w g gb bs p n q m (.slice none 0 0) (.int .u64 (m : Int)) w1 := by
        cases s1 with
        | dead a c => exact ⟨0, m, 0, [], rfl, ⟨rfl, .inl ⟨rfl, rfl⟩⟩, by omega, by omega, M1, .inr ⟨a, c, D1, listA_dead HV.out⟩⟩
        | live q => exact ⟨q, m, 0, [], rfl, ⟨rfl, .inl ⟨rfl, rfl⟩⟩, by omega, by omega, M1, .inl ⟨D1, (varGo_10 bs p n.toNat q m hp HV.out).2.1, by omega, rfl, HV.out⟩⟩
      have hm64 : m < 18446744073709551616 := by
        cases s1 with
        | dead a c => rw [varGo_dead bs p _ _ _ _ _ _ _ HV.out]; decide
        | live q => exact (varGo_10 bs p n.toNat q m hp HV.out).2.2.2
      clear HV D1 M1
      have HI := Lib.hid hI
      clear hI
      go_wp2_with fail
      go_loopw [7, 8] (EachInv w g gb bs p n q m) (fun v k _ => (intOf k).toNat)
      case atStart => exact HI.out
      case round =>
        obtain ⟨r, j, xs, rfl, hown, hjr, hj, M, hst⟩ := hrel
        have hrm : (r : Int) < 18446744073709551616 := by omega
        rcases hst with ⟨L, hqj, hjm, rfl, hvar⟩ | ⟨a, c, D, hl⟩
        · have HL := Lib.hid L
          have HV := Lib.hid hvar
          have HO := Lib.hid hown
          obtain ⟨A1, c1, rfl⟩ := own_form hown
          clear L hvar hown
          by_cases hr : r = 0
          · subst hr
            have hmj : m = j := by omega
            have ht := listA_ok (n := n) HV.out (by omega)
            rw [hmj] at ht
            have HT := Lib.hid ht
            have HMJ := Lib.hid hmj
            clear ht hmj
            go_wp2_with (go_at_call 51; refine (over_live HL.out).mono ?_; rintro e w' ⟨rfl, rfl⟩)
            go_ret
            have hlen : ((bs.drop q).take j).length = j := by simp; omega
            rw [HT.out]
            refine ⟨A1, c1, by rw [hlen]; rfl, ?_, HL.out, M⟩
            rw [hlen]
            exact HO.out
          · have hrp : 0 < r := by omega
            have e1 : IntKind.u64.wrap ((r : Int) - 1) = (r : Int) - 1 := IntWalk.u64_in _ (by omega)
            have HX := Lib.hid (And.intro hjr (And.intro hj (And.intro hp (And.intro hm64 (And.intro hb (And.intro hqj hjm))))))
            obtain ⟨i0, hi, hz0, hz1, hz2⟩ := info_parts u8_info
            have HI0 := Lib.hid (And.intro hi (And.intro hz0 (And.intro hz1 hz2)))
            by_cases hlt : q + j < bs.length
            · have HLT := Lib.hid hlt
              have hbv := byte_lt bs[q + j]
              have HB := Lib.hid hbv
              clear hbv hlt hr hrm hjr hj hp hm64 hb hn1 hn2 hneg heq hqj hjm hi hz0 hz1 hz2
              go_wp2_with (first
                | (go_at_call 51; refine (over_live HL.out).mono ?_; rintro e w' ⟨rfl, rfl⟩)
                | (go_at_call 70; refine (one_ok HL.out HLT.out).mono ?_; rintro e w2 ⟨rfl, L2, M2⟩; have HL2 := Lib.hid L2; clear L2)
                | (at_builtin; refine wpList_put1 rfl (.tmp 33) (.tmp 37) 23 rfl w.heap.size 5 i0 (.int .u8 0) 1 Try.underlying23 HI0.out.1 HI0.out.2.1 HI0.out.2.2.1 HI0.out.2.2.2 rfl w2 A1 c1 j _ (.int .u8 (bs[q + j]'HLT.out).toNat) rfl rfl (own_mod HO.out M2 (fun k hk c => absurd (show k = g from c) (by omega))) rfl (by have := HX.out; simp only [maxLen]; omega) (by have := HX.out; omega) (by have := M.size; have := M2.size; omega) ?_; rintro A2 c2 w3 hown3 hM3; have HO3 := Lib.hid hown3; clear hown3))
              go_roundw
              case rel =>
                obtain ⟨x1, x2, x3, x4, x5, x6, x7⟩ := HX.out
                have x8 := HLT.out
                refine ⟨r - 1, j + 1, (bs.drop q).take (j + 1), by congr 1; omega, ?_, by omega, by omega, (M.and_then M2).trans (hM3.mono (S' := rowS w2 w.heap.size 5) (fun _ _ c => c)) ?_, .inl ⟨?_, by omega, by omega, rfl, HV.out⟩⟩
                · have : bvs ((bs.drop q).take (j + 1)) = bvs ((bs.drop q).take j) ++ [.int .u8 (bs[q + j].toNat : Int)] := by
                    rw [List.take_succ_eq_append_getElem (by simp; omega), bvs_append]; simp [bvs, bv]
                  rw [this]; exact HO3.out
                · intro k hk c; have := c.1; omega
                · have D3 := rowS_dec (s := .live (q + j + 1)) HL2.out hM3 hg hgb (by decide)
                  exact D3
              case measure => simp [intOf]; omega
            · have HLT := Lib.hid hlt
              clear hlt hr hrm hjr hj hp hm64 hb hn1 hn2 hneg heq hqj hjm hi hz0 hz1 hz2
              go_wp2_with (first
                | (go_at_call 51; refine (over_live HL.out).mono ?_; rintro e w' ⟨rfl, rfl⟩)
                | (go_at_call 70; refine (one_no HL.out HLT.out).mono ?_; rintro e w2 ⟨rfl, D2, M2⟩; have HD2 := Lib.hid D2; clear D2)
                | (at_builtin; refine wpList_put1 rfl (.tmp 33) (.tmp 37) 23 rfl w.heap.size 5 i0 (.int .u8 0) 1 Try.underlying23 HI0.out.1 HI0.out.2.1 HI0.out.2.2.1 HI0.out.2.2.2 rfl w2 A1 c1 j _ (.int .u8 0) rfl rfl (own_mod HO.out M2 (fun k hk c => absurd (show k = g from c) (by omega))) rfl (by have := HX.out; simp only [maxLen]; omega) (by have := HX.out; omega) (by have := M.size; have := M2.size; omega) ?_; rintro A2 c2 w3 hown3 hM3; have HO3 := Lib.hid hown3; clear hown3))
              go_roundw
              case rel =>
                obtain ⟨x1, x2, x3, x4, x5, x6, x7⟩ := HX.out
                have x8 := HLT.out
                have xq : q + j = bs.length := by omega
                refine ⟨r - 1, j + 1, (bs.drop q).take j ++ [0], by congr 1; omega, ?_, by omega, by omega, (M.and_then M2).trans (hM3.mono (S' := rowS w2 w.heap.size 5) (fun _ _ c => c)) ?_, .inr ⟨bs.length, 10, ?_, ?_⟩⟩
                · rw [bvs_append]; exact HO3.out
                · intro k hk c; have := c.1; omega
                · have D3 := rowS_dec (s := .dead (q + j) 10) HD2.out hM3 hg hgb (by decide)
                  rw [xq] at D3
                  exact D3
                · exact listA_no HV.out (by omega)
              case measure => simp [intOf]; omega
        · have HD := Lib.hid D
          have HT := Lib.hid hl
          clear D hl
          by_cases hr : r = 0
          · subst hr
            go_wp2_with (go_at_call 51; refine (over_dead HD.out).mono ?_; rintro e w' ⟨rfl, rfl⟩)
            go_ret
            rw [HT.out]
            exact ⟨none, 0, rfl, ⟨rfl, .inl ⟨rfl, rfl⟩⟩, HD.out, M⟩
          · have hrp : 0 < r := by omega
            have HX := Lib.hid (And.intro hjr (And.intro hj (And.intro hp (And.intro hm64 (And.intro hb (And.intro hn1 hn2))))))
            clear hr hrm hjr hj hp hm64 hgb hb hn1 hn2 hneg heq
            go_wp2_with (go_at_call 51; refine (over_dead HD.out).mono ?_; rintro e w' ⟨rfl, rfl⟩)
            go_ret
            rw [HT.out]
            exact ⟨none, 0, rfl, ⟨rfl, .inl ⟨rfl, rfl⟩⟩, HD.out, M⟩

end Go.Proofs.Ytpfkcejndjnbhaa.WD
