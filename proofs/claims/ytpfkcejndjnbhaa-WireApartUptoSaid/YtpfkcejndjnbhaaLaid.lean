/- The law's laid: the document's bytes of an add (printed by wirelaid.py). -/
import Derived.Test.YtpfkcejndjnbhaaPut
namespace Go.Proofs.Ytpfkcejndjnbhaa.EN
open Go.RowKit Mem WM
open Go.Proofs.Ytpfkcejndjnbhaa.WD (RdT u8_info rowS wpList_put1 own_mod key_size)
open Go.Proofs.Ytpfkcejndjnbhaa.OP (atA cell_lt)
open Go.Proofs.Ytpfkcejndjnbhaa.RD (width_any)
set_option linter.unusedVariables false
set_option linter.unusedSimpArgs false

theorem ret_slice {A : Option Addr} {n m c : Nat} (h : n = m) : Ending.returned (.slice A n c) = Ending.returned (.slice A m c) := by rw [h]

theorem bvs_inj {l m : List UInt8} (h : bvs l = bvs m) : l = m := by
  apply List.ext_getElem?
  intro i
  have := congrArg (·[i]?) h
  simp only [bvs_get'] at this
  cases h1 : l[i]? <;> cases h2 : m[i]? <;> simp [h1, h2, bv] at this ⊢
  exact UInt8.toNat_inj.1 (by omega)

set_option maxRecDepth 100000 in
/-- 'append(row, x...)' onto a row of one's own, x whatever reads. -/
theorem wpList_ownx {ops : Array Oper} {rest : List Oper} {o : Oper} {a : Act} {Q : Exit → Act → World → Prop} (hgd : o.guard = none) (s x : Operand)
    (ho : o.op = .call { callee := .builtin .append, args := #[s, x], argTypes := #[23, 23] })
    (base : Nat) (w : World) (A : Option Addr) (c n : Nat) (bs : List UInt8) (hs : a.eval s = .slice A n c) (hown : w.ownsRow base 5 1 (.slice A n c) n (bvs bs))
    (A2 : Option Addr) (m c2 : Nat) (news : List UInt8) (hm : m = news.length) (hx : a.eval x = .slice A2 m c2) (hr : Rds w 1 A2 m (bvs news)) (hlen : n + m ≤ 140737488000000) (hbase : base ≤ w.heap.size)
    (h : ∀ A' c' w', w'.ownsRow base 5 1 (.slice A' (n + m) c') (n + m) (bvs (bs ++ news)) → Mod (rowS w base 5) w w' → wpList Try.prog ops Q rest (a.put o.dst (.slice A' (n + m) c')) w') :
    wpList Try.prog ops Q (o :: rest) a w := by
  subst hm
  obtain ⟨i0, hi, hz0, hz1, hz2⟩ := info_parts u8_info
  refine wpList_append w hgd s x _ ho base 5 i0 (.int .u8 0) 1 1 Try.underlying23 hi hz0 hz1 hz2 rfl (by decide) (.slice A n c) n (bvs bs) hs hown A2 news.length c2 (bvs news) hx hr (bvs_one news) (by simp only [maxLen]; omega) (by omega) hbase ?_
  intro v1 w1 hown1 hg hat hnn
  rw [← bvs_append] at hown1
  obtain ⟨A', c', rfl⟩ := own_form hown1
  refine h A' c' w1 hown1 (Mod.of_grown hg fun k hk e => ?_)
  rcases hown.2 with ⟨hv, _⟩ | ⟨g, cap, cur, hv, hbg, hgb, _⟩
  · rw [hv] at e; simp [Value.ownBlock] at e
  · rw [hv] at e; simp [Value.ownBlock] at e; subst e; exact ⟨hbg, cur, hgb⟩

/-- What laid answers: a row of its own. -/
def Laid (w : World) (bs : List UInt8) (e : Ending) (w' : World) : Prop := ∃ A' c', e = .returned (.slice A' bs.length c') ∧ w'.ownsRow w.heap.size 5 1 (.slice A' bs.length c') bs.length (bvs bs) ∧ Mod no w w'

theorem own_lowerx {w : World} {b b' : Nat} {e : TypeId} {size : Nat} {v : Value} {n : Nat} {xs : List Value} (h : w.ownsRow b' e size v n xs) (hb : b ≤ b') : w.ownsRow b e size v n xs := WD.own_lower h hb

set_option maxRecDepth 100000 in
set_option maxHeartbeats 1000000 in
theorem laid_var {w : World} (N : Nat) (S : List UInt8) (A2 : Option Addr) (n cp : Nat) (K : List UInt8) (hN : N < 18446744073709551616):
    Calls Try.prog 11 #[addV 1 N S A2 n cp K] w fun e w' => Laid w (varBytes N) e w' := by
  have HN := Lib.hid hN
  obtain ⟨c0, c1, c2, c3, c4⟩ := add_cells (addL_blk 1 N S A2 n cp K w)
  generalize hL : addL 1 N S A2 n cp K = L at *
  clear hN c4
  unfold addV
  rw [hL]
  clear hL
  go_enter Try.func11, Try.ntmps11
  go_wp2_with fail
  refine (rvarb_any N HN.out).mono ?_
  rintro e w1 ⟨A1, k1, rfl, hown, M⟩
  have HO := Lib.hid hown
  have HM := Lib.hid M
  clear hown M
  go_wp2_with fail
  go_ret
  exact ⟨A1, k1, ret_slice (by simp), own_lowerx HO.out (by simp), ((Mod.refl no w).alloc _).and_then HM.out⟩

set_option maxRecDepth 100000 in
set_option maxHeartbeats 1000000 in
theorem laid_text {w : World} (N : Nat) (S : List UInt8) (A2 : Option Addr) (n cp : Nat) (K : List UInt8) (hl : S.length ≤ 1048576):
    Calls Try.prog 11 #[addV 2 N S A2 n cp K] w fun e w' => Laid w (varBytes S.length ++ S) e w' := by
  have HL := Lib.hid hl
  obtain ⟨c0, c1, c2, c3, c4⟩ := add_cells (addL_blk 2 N S A2 n cp K w)
  generalize hL : addL 2 N S A2 n cp K = L at *
  clear hl c4
  unfold addV
  rw [hL]
  clear hL
  go_enter Try.func11, Try.ntmps11
  go_wp2_with fail
  refine (rtextb_any S HL.out).mono ?_
  rintro e w1 ⟨A1, k1, rfl, hown, M⟩
  have HO := Lib.hid hown
  have HM := Lib.hid M
  clear hown M
  go_wp2_with fail
  go_ret
  exact ⟨A1, k1, ret_slice (by simp), own_lowerx HO.out (by simp), ((Mod.refl no w).alloc _).and_then HM.out⟩

set_option maxRecDepth 100000 in
set_option maxHeartbeats 1000000 in
theorem laid_raw {w : World} (N : Nat) (S : List UInt8) (A2 : Option Addr) (n cp : Nat) (K : List UInt8) (B : List UInt8) (hn : n = B.length) (hl : B.length ≤ 1048576) (hr : Rds w 1 A2 B.length (bvs B)) :
    Calls Try.prog 11 #[addV 3 N S A2 n cp K] w fun e w' => Laid w B e w' := by
  have HL := Lib.hid hl
  have HR := fun o => Lib.hid (OP.rds_mod hr ((Mod.refl no w).alloc o))
  have HN := Lib.hid hn
  obtain ⟨c0, c1, c2, c3, c4⟩ := add_cells (addL_blk 3 N S A2 n cp K w)
  generalize hL : addL 3 N S A2 n cp K = L at *
  clear hl hr hn c4
  unfold addV
  rw [hL]
  clear hL
  go_enter Try.func11, Try.ntmps11
  go_wp2_with (at_builtin; refine wpList_ownx rfl (.tmp 24) (.tmp 26) rfl w.heap.size _ none 0 0 [] rfl ⟨rfl, .inl ⟨rfl, rfl⟩⟩ A2 n cp B HN.out rfl (by rw [HN.out]; exact (HR _).out) (by have := HL.out; have := HN.out; omega) (by simp) ?_; intro A1 k1 w1 hown hM; have HO := Lib.hid hown; have HM := Lib.hid hM; clear hown hM)
  go_ret
  have he : 0 + n = B.length := by rw [HN.out]; omega
  have ho := HO.out
  rw [List.nil_append, he] at ho
  exact ⟨A1, k1, by rw [← he]; simp, ho, ((Mod.refl no w).alloc _).trans HM.out (fun k hk c => by have := c.1; omega)⟩

set_option maxRecDepth 100000 in
set_option maxHeartbeats 1000000 in
theorem laid_key {w : World} (N : Nat) (S : List UInt8) (A2 : Option Addr) (n cp : Nat) (K : List UInt8) (hK : K.length = 32) :
    Calls Try.prog 11 #[addV 4 N S A2 n cp K] w fun e w' => Laid w K e w' := by
  have HK := Lib.hid hK
  have HBK := Lib.hid (addL_blk 4 N S A2 n cp K w)
  have HLL := Lib.hid (show ∀ j u, (bvs K)[j]? = some u → (addL 4 N S A2 n cp K).toArray[4 + j]? = some u from fun j u hu => by
    rw [List.getElem?_toArray, addL, List.getElem?_append_right (by simp)]; simpa using hu)
  obtain ⟨c0, c1, c2, c3, c4⟩ := add_cells (addL_blk 4 N S A2 n cp K w)
  generalize hL : addL 4 N S A2 n cp K = L at *
  clear hK c4
  unfold addV
  rw [hL]
  clear hL
  go_enter Try.func11, Try.ntmps11
  go_wp2_with (at_builtin; refine wpList_ownx rfl (.tmp 30) (.tmp 32) rfl w.heap.size _ none 0 0 [] rfl ⟨rfl, .inl ⟨rfl, rfl⟩⟩ (some ⟨w.heap.size, 4, none⟩) 32 32 K HK.out.symm rfl (Rds.of_blk HBK.out (by rw [bvs_length, HK.out]) HLL.out) (by omega) (by simp) ?_; intro A1 k1 w1 hown hM; have HO := Lib.hid hown; have HM := Lib.hid hM; clear hown hM)
  go_ret
  have ho := HO.out
  rw [List.nil_append, show 0 + 32 = K.length by rw [HK.out]] at ho
  exact ⟨A1, k1, ret_slice HK.out.symm, ho, ((Mod.refl no w).alloc _).trans HM.out (fun k hk c => by have := c.1; omega)⟩

set_option maxRecDepth 100000 in
set_option maxHeartbeats 1000000 in
theorem laid_list {w : World} (N : Nat) (S : List UInt8) (A2 : Option Addr) (n cp : Nat) (K : List UInt8) (B : List UInt8) (hn : n = B.length) (hl : B.length ≤ 1048576) (hr : Rds w 1 A2 B.length (bvs B)) :
    Calls Try.prog 11 #[addV 13 N S A2 n cp K] w fun e w' => Laid w (varBytes B.length ++ B) e w' := by
  have HL := Lib.hid hl
  have HR := fun o => Lib.hid (OP.rds_mod hr ((Mod.refl no w).alloc o))
  have HN := Lib.hid hn
  have e1 : IntKind.u64.wrap (n : Int) = (n : Int) := IntWalk.u64_in _ (by omega)
  obtain ⟨c0, c1, c2, c3, c4⟩ := add_cells (addL_blk 13 N S A2 n cp K w)
  generalize hL : addL 13 N S A2 n cp K = L at *
  clear hl hr hn c4
  unfold addV
  rw [hL]
  clear hL
  go_enter Try.func11, Try.ntmps11
  go_wp2_with fail
  refine (rvarb_any n (by have := HL.out; have := HN.out; omega)).mono ?_
  rintro e w1 ⟨A1, k1, rfl, hown, M⟩
  have d3 := (M.cell (p := ⟨w.heap.size, 3, none⟩) (by simp) (fun c => c)).trans c3
  have HO := Lib.hid hown
  have HM := Lib.hid M
  clear hown M
  go_wp2_with (at_builtin; refine wpList_ownx rfl (.tmp 41) (.tmp 43) rfl w.heap.size w1 A1 k1 (varBytes n).length (varBytes n) rfl (own_lowerx HO.out (by simp)) A2 n cp B HN.out rfl (by rw [HN.out]; exact OP.rds_mod (HR _).out HM.out) (by have := HL.out; have := HN.out; have := varBytes_10 (v := n) (by omega); omega) (by have := HM.out.size; simp at this; omega) ?_; intro A3 k3 w3 hown3 hM3; have HO3 := Lib.hid hown3; have HM3 := Lib.hid hM3; clear hown3 hM3)
  go_ret
  have he : (varBytes n).length + n = (varBytes B.length ++ B).length := by rw [HN.out]; simp
  have ho := HO3.out
  rw [he, show varBytes n ++ B = varBytes B.length ++ B by rw [HN.out]] at ho
  exact ⟨A3, k3, ret_slice he, ho, (((Mod.refl no w).alloc _).and_then HM.out).trans HM3.out (fun k hk c => by have := c.1; omega)⟩

set_option maxRecDepth 100000 in
set_option maxHeartbeats 1000000 in
theorem laid_fix {w : World} (N : Nat) (S : List UInt8) (A2 : Option Addr) (n cp : Nat) (K : List UInt8) (kind : Int) (hN : N < 18446744073709551616) (h1 : kind ≠ 1) (h2 : kind ≠ 2) (h3 : kind ≠ 3) (h4 : kind ≠ 4) (h13 : kind ≠ 13) :
    Calls Try.prog 11 #[addV kind N S A2 n cp K] w fun e w' => Laid w (fixBytes (WM.width kind) N) e w' := by
  have HN := Lib.hid hN
  have HW := Lib.hid (show WM.width kind ≤ 8 by unfold WM.width; (repeat' split) <;> omega)
  have b1 : (kind == 1) = false := by simpa using h1
  have b2 : (kind == 2) = false := by simpa using h2
  have b3 : (kind == 3) = false := by simpa using h3
  have b4 : (kind == 4) = false := by simpa using h4
  have b13 : (kind == 13) = false := by simpa using h13
  obtain ⟨c0, c1, c2, c3, c4⟩ := add_cells (addL_blk kind N S A2 n cp K w)
  generalize hL : addL kind N S A2 n cp K = L at *
  clear hN c4 h1 h2 h3 h4 h13
  unfold addV
  rw [hL]
  clear hL
  go_enter Try.func11, Try.ntmps11
  go_wp2_with fail
  go_region_held3 (fun w' => w'.cell? ⟨w.heap.size, 0, none⟩ = some (.int .i64 kind) ∧ w'.cell? ⟨w.heap.size, 1, none⟩ = some (.int .u64 (N : Int))) (first | exact ⟨c0, c1⟩ | exact ⟨(Mod.cell M (p := ⟨w.heap.size, 0, none⟩) (by simp) (fun c => c)).trans c0, (Mod.cell M (p := ⟨w.heap.size, 1, none⟩) (by simp) (fun c => c)).trans c1⟩)
    (first
      | (go_at_call 49; refine (width_any _).mono ?_; rintro e w1 ⟨rfl, rfl⟩)
      | (go_at_call 48; refine (rfixb_any N (WM.width kind) HN.out HW.out).mono ?_; rintro e w1 ⟨A1, k1, rfl, hown, M⟩; have HO := Lib.hid hown; have HM := Lib.hid M))
  go_wp2_with fail
  go_ret
  refine ⟨A1, k1, ret_slice (fixBytes_length _ _).symm, own_lowerx (b' := (w.alloc (.cells #[] 5)).heap.size) (by rw [fixBytes_length]; simpa using HO.out) (by simp), (((Mod.refl no w).alloc _).drew).and_then HM.out⟩

/-- The law's laid. -/
theorem laid_any {w : World} (kind : Int) (N : Nat) (S : List UInt8) (A2 : Option Addr) (n cp : Nat) (K B : List UInt8) (hN : N < 18446744073709551616) (hK : K.length = 32) (hn : n = B.length) (hS : S.length ≤ 1048576) (hB : B.length ≤ 1048576) (hr : Rds w 1 A2 B.length (bvs B)) :
    Calls Try.prog 11 #[addV kind N S A2 n cp K] w fun e w' => Laid w (addA kind N S B K) e w' := by
  by_cases h1 : kind = 1
  · subst h1; exact laid_var N S A2 n cp K hN
  by_cases h2 : kind = 2
  · subst h2; exact laid_text N S A2 n cp K hS
  by_cases h3 : kind = 3
  · subst h3; exact laid_raw N S A2 n cp K B hn hB hr
  by_cases h4 : kind = 4
  · subst h4; exact laid_key N S A2 n cp K hK
  by_cases h13 : kind = 13
  · subst h13; exact laid_list N S A2 n cp K B hn hB hr
  have e : addA kind N S B K = fixBytes (WM.width kind) N := by unfold addA; rw [if_neg h1, if_neg h2, if_neg h3, if_neg h4, if_neg h13]
  rw [e]
  exact laid_fix N S A2 n cp K kind hN h1 h2 h3 h4 h13

end Go.Proofs.Ytpfkcejndjnbhaa.EN
