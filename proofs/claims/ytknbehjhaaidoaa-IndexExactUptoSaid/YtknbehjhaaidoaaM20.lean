/- IndexExact: the texts RiD of this seat, one behind the other. -/
import Derived.Test.YtknbehjhaaidoaaM19
/- The document's index: Del. -/
namespace Go.Proofs.Ytknbehjhaaidoaa.IX
open Go.RowKit Go.Shelf Mem HD TB
set_option linter.unusedVariables false
set_option linter.unusedSimpArgs false
section
variable {a : Act} {o : Oper} {w : World} {ops : Array Oper} {rest : List Oper} {Q : Exit → Act → World → Prop} {d : Option Tmp}
theorem wl_kvapp (A : Value → Act) {s q : Operand} (ho : o.op = .call { callee := .builtin .append, args := #[s, q], argTypes := #[77, 77] }) (hgd : o.guard = none) (hd : o.dst = d) (ha : ∀ v, a.put d v = A v) (base b : Nat) (v : Value) (l : List (Key × Ent)) (x : Key × Ent)
    (hs : a.eval s = v) (hq : a.eval q = .slice (some ⟨b, 0, none⟩) 1 1) (hown : KvRow w base v l) (hb : Blk w b 58 (pairL x).toArray) (hn : l.length ≤ 2097152) (hbase : base ≤ w.heap.size)
    (h : ∀ v' w', KvRow w' base v' (l ++ [x]) → w.grownBy w' v.ownBlock → (v'.ownBlock = v.ownBlock ∨ v'.ownBlock = some w.heap.size) → WL ops Q rest (A v') w') : WL ops Q (o :: rest) a w := by
  subst hd
  obtain ⟨v', w', hrun, h2, h3, h4⟩ := kv_append w o.type hown hb (by omega) hbase
  exact ⟨wpList_plain hgd fun K hK => op_yield (y_kvapp ho hs hq hrun) (hK _ _ (by rw [ha]; exact (h v' w' h2 h3 h4).out))⟩
theorem wl_storeS {a' : Act} {x y : Operand} (ho : o.op = .store 77 x y) (r : Nat) (A : Option Addr) (n c : Nat) (hgd : o.guard = none) (hd : o.dst = none) (ha : a.put none undef = a') (hx : a.eval x = .pointer (some ⟨r, 0, none⟩)) (hy : a.eval y = .slice A n c)
    {v0 : Value} (hb : Blk w r 79 #[v0]) (h : WL ops Q rest a' (w.setCell ⟨r, 0, none⟩ (.slice A n c))) : WL ops Q (o :: rest) a w := by
  subst ha
  refine ⟨wpList_plain hgd fun K hK => ?_⟩
  have hc : w.cell? ⟨r, 0, none⟩ = some v0 := hb.cell 0
  have hf := hb.free 0
  unfold Oper.wp execOp
  simp only [ho, hx, hy]
  go_simp
  exact hK _ _ h.out
theorem y_neqi {x y : Operand} {m n : Int} {d : Bool} (hd : decide (m = n) = d) (ho : o.op = .binOp .neq 3 x y 3) (hx : a.eval x = .int .i64 m) (hy : a.eval y = .int .i64 n) : (execOp a.eval o).run Try.prog w = .ok (.value (.bool (!d))) w := by
  subst hd
  generalize a.eval = ev at hx hy
  unfold execOp
  simp only [ho, hx, hy]
  go_simp
  by_cases h : m = n <;> simp [h]
end
theorem less_snoc (L : List (Key × Ent)) (x : Key × Ent) (k : Key) : less (L ++ [x]) k = if x.1 = k then less L k else less L k ++ [x] := by
  unfold less
  rw [List.filter_append]
  by_cases h : x.1 = k
  · simp [h]
  · simp [h]
/-- An append onto a row that lies behind all that lay in w0 keeps what lay in w0. -/
theorem kv_mod {w0 w w' : World} {base : Nat} {v : Value} {l : List (Key × Ent)} (h : KvRow w base v l) (hg : w.grownBy w' v.ownBlock) (hb : w0.heap.size ≤ base) (m : Mod no w0 w) : Mod no w0 w' :=
  m.trans (Mod.of_grown (S := fun b => base ≤ b) hg fun k _ e => (h.own e).1) fun b hb' c => by
    have c : base ≤ b := c
    omega
/-- The list is another one. -/
def RNew (w w' : World) (r : Nat) (l' : List (Key × Ent)) : Prop := ∃ v', Blk w' r 79 #[v'] ∧ KvRow w' w.heap.size v' l' ∧ Mod (one r) w w'
set_option maxRecDepth 100000 in
set_option maxHeartbeats 4000000 in
theorem rdel_any {w : World} {r : Nat} {v : Value} {l : List (Key × Ent)} (h : RAt w r v l) (hn : NK l) (hl : l.length ≤ 2097152) (k : Key) : Calls Try.prog 72 #[.pointer (some ⟨r, 0, none⟩), .agg k.L.toArray] w fun e w' => ∃ q, e = .returned (gotV q) ∧ TB.Found l k q ∧ (q = none → Mod no w w') ∧ (q ≠ none → RNew w w' r (less l k)) := by
  have hw := w2_facts w k
  have hrl := h.1.lt
  have HA := Lib.hid (And.intro (show RAt (W2 w k) r v l from ⟨h.1.mod hw.1 (fun c => c), h.2.mod hw.1 (fun _ _ c => c)⟩) (And.intro hw (And.intro hn (And.intro hl hrl))))
  clear h hw hn hl hrl
  go_enter Try.func72, Try.ntmps72
  go_upto_region 1 with fail
  obtain ⟨w2, hw2⟩ : ∃ w2, w2 = W2 w k := ⟨_, rfl⟩
  change Code.wp _ _ _ _ (W2 w k)
  rw [← hw2] at HA ⊢
  clear hw2
  obtain ⟨h0, hh0⟩ : ∃ h0, h0 = w.heap.size := ⟨_, rfl⟩
  have HH := Lib.hid hh0
  rw [← hh0] at HA ⊢
  clear hh0
  refine HD.wl_begin ?_
  refine HD.wl_takeF (d := some 10) (v := (.pointer (some ⟨r, 0, none⟩))) (by kernel_rfl) rfl rfl (y_move rfl rfl) ?_
  refine HD.wl_takeF (d := some 11) (v := (.agg k.L.toArray)) (a' := ⟨List.toArray ((.pointer (some ⟨r, 0, none⟩))::(.agg k.L.toArray)::undef::(.pointer (some ⟨h0, 0, none⟩))::(.pointer (some ⟨(h0 + 1), 0, none⟩))::(.bool false)::undef::undef::undef::undef::(.pointer (some ⟨r, 0, none⟩))::(.agg k.L.toArray)::undef::undef::undef::undef::undef::undef::undef::undef::undef::undef::undef::undef::undef::undef::undef::undef::undef::undef::undef::undef::undef::undef::undef::undef::undef::undef::undef::undef::undef::undef::undef::undef::undef::undef::undef::undef::undef::undef::undef::[]), []⟩) (by kernel_rfl) rfl (by kernel_rfl) (y_key rfl rfl HA.out.2.1.2.1) ?_
  refine HD.wl_callG (d := some 12) (fun v9 => ⟨List.toArray ((.pointer (some ⟨r, 0, none⟩))::(.agg k.L.toArray)::undef::(.pointer (some ⟨h0, 0, none⟩))::(.pointer (some ⟨(h0 + 1), 0, none⟩))::(.bool false)::undef::undef::undef::undef::(.pointer (some ⟨r, 0, none⟩))::(.agg k.L.toArray)::(v9)::undef::undef::undef::undef::undef::undef::undef::undef::undef::undef::undef::undef::undef::undef::undef::undef::undef::undef::undef::undef::undef::undef::undef::undef::undef::undef::undef::undef::undef::undef::undef::undef::undef::undef::undef::undef::undef::undef::[]), []⟩) (by kernel_rfl) rfl (fun _ => by kernel_rfl) fun K hK => ?_
  refine op_c2 (fun _ _ => rfl) rfl rfl rfl (rfind_any HA.out.1 HA.out.2.2.2.1 k) ?_
  rintro e w3 ⟨o, rfl, hat, hm3⟩
  have HF := Lib.hid (And.intro hat (And.intro hm3 (And.intro (HA.out.1.1.mod hm3 (fun c => c)) (HA.out.1.2.mod hm3 (fun _ _ c => c)))))
  have HB3 := Lib.hid (And.intro (HA.out.2.1.2.2.mod hm3 (fun c => c)) (HA.out.2.1.1.and_then hm3))
  refine ⟨_, rfl, hK _ _ ?_⟩
  clear hK K hat hm3
  refine HD.wl_takeF (d := some 6) (v := (.int .i64 (atV o))) (a' := ⟨List.toArray ((.pointer (some ⟨r, 0, none⟩))::(.agg k.L.toArray)::undef::(.pointer (some ⟨h0, 0, none⟩))::(.pointer (some ⟨(h0 + 1), 0, none⟩))::(.bool false)::(.int .i64 (atV o))::undef::undef::undef::(.pointer (some ⟨r, 0, none⟩))::(.agg k.L.toArray)::(.int .i64 (atV o))::undef::undef::undef::undef::undef::undef::undef::undef::undef::undef::undef::undef::undef::undef::undef::undef::undef::undef::undef::undef::undef::undef::undef::undef::undef::undef::undef::undef::undef::undef::undef::undef::undef::undef::undef::undef::undef::undef::[]), []⟩) (by kernel_rfl) rfl (by kernel_rfl) (y_assign rfl rfl) ?_
  refine HD.wl_done ?_
  cases o with
  | none =>
    have d1 : decide ((-1 : Int) < 0) = true := by decide
    go_upto_region 2 with fail
    refine HD.wl_begin ?_
    refine HD.wl_takeF (d := some 13) (v := (.int .i64 (-1))) (by kernel_rfl) rfl rfl (y_move rfl rfl) ?_
    refine HD.wl_takeF (d := some 14) (v := (.bool true)) (a' := ⟨List.toArray ((.pointer (some ⟨r, 0, none⟩))::(.agg k.L.toArray)::undef::(.pointer (some ⟨h0, 0, none⟩))::(.pointer (some ⟨(h0 + 1), 0, none⟩))::(.bool false)::(.int .i64 (-1))::undef::undef::undef::(.pointer (some ⟨r, 0, none⟩))::(.agg k.L.toArray)::(.int .i64 (-1))::(.int .i64 (-1))::(.bool true)::undef::undef::undef::undef::undef::undef::undef::undef::undef::undef::undef::undef::undef::undef::undef::undef::undef::undef::undef::undef::undef::undef::undef::undef::undef::undef::undef::undef::undef::undef::undef::undef::undef::undef::undef::undef::[]), []⟩) (by kernel_rfl) rfl (by kernel_rfl) (y_lss0 d1 rfl rfl) ?_
    refine HD.wl_done ?_
    go_upto_region 3 with fail
    refine HD.wl_begin ?_
    refine HD.wl_takeF (d := some 15) (v := (.agg e0.L.toArray)) (a' := ⟨List.toArray ((.pointer (some ⟨r, 0, none⟩))::(.agg k.L.toArray)::undef::(.pointer (some ⟨h0, 0, none⟩))::(.pointer (some ⟨(h0 + 1), 0, none⟩))::(.bool false)::(.int .i64 (-1))::undef::undef::undef::(.pointer (some ⟨r, 0, none⟩))::(.agg k.L.toArray)::(.int .i64 (-1))::(.int .i64 (-1))::(.bool true)::(.agg e0.L.toArray)::undef::undef::undef::undef::undef::undef::undef::undef::undef::undef::undef::undef::undef::undef::undef::undef::undef::undef::undef::undef::undef::undef::undef::undef::undef::undef::undef::undef::undef::undef::undef::undef::undef::undef::undef::[]), []⟩) (by kernel_rfl) rfl (by kernel_rfl) (y_e0 rfl) ?_
    refine wl_entF (a' := ⟨List.toArray ((.pointer (some ⟨r, 0, none⟩))::(.agg k.L.toArray)::undef::(.pointer (some ⟨h0, 0, none⟩))::(.pointer (some ⟨(h0 + 1), 0, none⟩))::(.bool false)::(.int .i64 (-1))::undef::undef::undef::(.pointer (some ⟨r, 0, none⟩))::(.agg k.L.toArray)::(.int .i64 (-1))::(.int .i64 (-1))::(.bool true)::(.agg e0.L.toArray)::undef::undef::undef::undef::undef::undef::undef::undef::undef::undef::undef::undef::undef::undef::undef::undef::undef::undef::undef::undef::undef::undef::undef::undef::undef::undef::undef::undef::undef::undef::undef::undef::undef::undef::undef::[]), []⟩) rfl (h0 + 1) e0 (by kernel_rfl) rfl (by kernel_rfl) rfl rfl HB3.out.1 ?_
    have m5 : Mod no w (World.setCells w3 (h0 + 1) 0 e0.L) := mod_setCells (fun c => by have := HH.out; omega) _ _ _ HB3.out.2
    have r5 : (World.setCells w3 (h0 + 1) 0 e0.L).rangeAt (h0 + 1) 0 e0.L := World.rangeAt_setCells_same _ _ _ _ (blk_there HB3.out.1 0 4 (Nat.le_refl 4))
    have H5 := Lib.hid (And.intro m5 r5)
    clear m5 r5
    refine HD.wl_takeF (d := some 5) (v := (.bool false)) (a' := ⟨List.toArray ((.pointer (some ⟨r, 0, none⟩))::(.agg k.L.toArray)::undef::(.pointer (some ⟨h0, 0, none⟩))::(.pointer (some ⟨(h0 + 1), 0, none⟩))::(.bool false)::(.int .i64 (-1))::undef::undef::undef::(.pointer (some ⟨r, 0, none⟩))::(.agg k.L.toArray)::(.int .i64 (-1))::(.int .i64 (-1))::(.bool true)::(.agg e0.L.toArray)::undef::undef::undef::undef::undef::undef::undef::undef::undef::undef::undef::undef::undef::undef::undef::undef::undef::undef::undef::undef::undef::undef::undef::undef::undef::undef::undef::undef::undef::undef::undef::undef::undef::undef::undef::[]), []⟩) (by kernel_rfl) rfl (by kernel_rfl) (y_assign rfl rfl) ?_
    refine HD.wl_done ?_
    go_wp2_with fail
    exact bodyPost_ret (v := .tuple #[.agg e0.L.toArray, .bool false]) (ret_two (p := 4) (u := 5) (ty := 56) rfl _ _ (h0 + 1) e0.L _ rfl rfl H5.out.2 Try.underlying56 rfl (ent_sizeG _)) rfl ⟨none, rfl, TB.Found.no fun e c => HF.out.1 (k, e) c rfl, fun _ => H5.out.1, fun c => absurd rfl c⟩
  | some at_ =>
    obtain ⟨xa, hxa, hxk⟩ := HF.out.1
    have hi := (List.getElem?_eq_some_iff.1 hxa).1
    have d1 : decide ((at_ : Int) < 0) = false := decide_eq_false (by omega)
    obtain ⟨A, c, rfl, hrd⟩ := HF.out.2.2.2
    have HR := Lib.hid hrd
    obtain ⟨ba, oa, hAa, hra⟩ := hrd at_ xa hxa
    have HC := Lib.hid (And.intro hi (pair_key hra).2)
    clear hra hrd hi
    subst hAa
    go_upto_region 2 with fail
    refine HD.wl_begin ?_
    refine HD.wl_takeF (d := some 13) (v := (.int .i64 (at_ : Int))) (by kernel_rfl) rfl rfl (y_move rfl rfl) ?_
    refine HD.wl_takeF (d := some 14) (v := (.bool false)) (a' := ⟨List.toArray ((.pointer (some ⟨r, 0, none⟩))::(.agg k.L.toArray)::undef::(.pointer (some ⟨h0, 0, none⟩))::(.pointer (some ⟨(h0 + 1), 0, none⟩))::(.bool false)::(.int .i64 (at_ : Int))::undef::undef::undef::(.pointer (some ⟨r, 0, none⟩))::(.agg k.L.toArray)::(.int .i64 (at_ : Int))::(.int .i64 (at_ : Int))::(.bool false)::undef::undef::undef::undef::undef::undef::undef::undef::undef::undef::undef::undef::undef::undef::undef::undef::undef::undef::undef::undef::undef::undef::undef::undef::undef::undef::undef::undef::undef::undef::undef::undef::undef::undef::undef::undef::[]), []⟩) (by kernel_rfl) rfl (by kernel_rfl) (y_lss0 d1 rfl rfl) ?_
    refine HD.wl_done ?_
    go_upto_region 4 with fail
    refine HD.wl_begin ?_
    refine HD.wl_takeF (d := some 16) (v := (.pointer (some ⟨r, 0, none⟩))) (by kernel_rfl) rfl rfl (y_move rfl rfl) ?_
    refine HD.wl_takeF (d := some 17) (v := (.pointer (some ⟨r, 0, none⟩))) (by kernel_rfl) rfl rfl (y_nil rfl rfl) ?_
    refine HD.wl_takeF (d := some 18) (v := (.pointer (some ⟨r, 0, none⟩))) (a' := ⟨List.toArray ((.pointer (some ⟨r, 0, none⟩))::(.agg k.L.toArray)::undef::(.pointer (some ⟨h0, 0, none⟩))::(.pointer (some ⟨(h0 + 1), 0, none⟩))::(.bool false)::(.int .i64 (at_ : Int))::undef::undef::undef::(.pointer (some ⟨r, 0, none⟩))::(.agg k.L.toArray)::(.int .i64 (at_ : Int))::(.int .i64 (at_ : Int))::(.bool false)::undef::(.pointer (some ⟨r, 0, none⟩))::(.pointer (some ⟨r, 0, none⟩))::(.pointer (some ⟨r, 0, none⟩))::undef::undef::undef::undef::undef::undef::undef::undef::undef::undef::undef::undef::undef::undef::undef::undef::undef::undef::undef::undef::undef::undef::undef::undef::undef::undef::undef::undef::undef::undef::undef::undef::[]), []⟩) (by kernel_rfl) rfl (by kernel_rfl) (y_fri rfl rfl) ?_
    refine HD.wl_takeF (d := some 19) (v := (.slice (some ⟨ba, oa, none⟩) l.length c)) (by kernel_rfl) rfl rfl (y_ldkv rfl rfl (HF.out.2.2.1.cell 0)) ?_
    refine HD.wl_takeF (d := some 20) (v := (.int .i64 (at_ : Int))) (by kernel_rfl) rfl rfl (y_move rfl rfl) ?_
    refine HD.wl_takeF (d := some 21) (v := (.pointer (some ⟨ba, oa + at_ * 36, none⟩))) (a' := ⟨List.toArray ((.pointer (some ⟨r, 0, none⟩))::(.agg k.L.toArray)::undef::(.pointer (some ⟨h0, 0, none⟩))::(.pointer (some ⟨(h0 + 1), 0, none⟩))::(.bool false)::(.int .i64 (at_ : Int))::undef::undef::undef::(.pointer (some ⟨r, 0, none⟩))::(.agg k.L.toArray)::(.int .i64 (at_ : Int))::(.int .i64 (at_ : Int))::(.bool false)::undef::(.pointer (some ⟨r, 0, none⟩))::(.pointer (some ⟨r, 0, none⟩))::(.pointer (some ⟨r, 0, none⟩))::(.slice (some ⟨ba, oa, none⟩) l.length c)::(.int .i64 (at_ : Int))::(.pointer (some ⟨ba, oa + at_ * 36, none⟩))::undef::undef::undef::undef::undef::undef::undef::undef::undef::undef::undef::undef::undef::undef::undef::undef::undef::undef::undef::undef::undef::undef::undef::undef::undef::undef::undef::undef::undef::[]), []⟩) (by kernel_rfl) rfl (by kernel_rfl) (y_ixkv rfl rfl rfl HC.out.1) ?_
    refine HD.wl_takeF (d := some 22) (v := (.pointer (some ⟨ba, oa + at_ * 36 + 32, none⟩))) (by kernel_rfl) rfl rfl (y_fk1 rfl rfl) ?_
    refine HD.wl_takeF (d := some 23) (v := (.agg xa.2.L.toArray)) (a' := ⟨List.toArray ((.pointer (some ⟨r, 0, none⟩))::(.agg k.L.toArray)::undef::(.pointer (some ⟨h0, 0, none⟩))::(.pointer (some ⟨(h0 + 1), 0, none⟩))::(.bool false)::(.int .i64 (at_ : Int))::undef::undef::undef::(.pointer (some ⟨r, 0, none⟩))::(.agg k.L.toArray)::(.int .i64 (at_ : Int))::(.int .i64 (at_ : Int))::(.bool false)::undef::(.pointer (some ⟨r, 0, none⟩))::(.pointer (some ⟨r, 0, none⟩))::(.pointer (some ⟨r, 0, none⟩))::(.slice (some ⟨ba, oa, none⟩) l.length c)::(.int .i64 (at_ : Int))::(.pointer (some ⟨ba, oa + at_ * 36, none⟩))::(.pointer (some ⟨ba, oa + at_ * 36 + 32, none⟩))::(.agg xa.2.L.toArray)::undef::undef::undef::undef::undef::undef::undef::undef::undef::undef::undef::undef::undef::undef::undef::undef::undef::undef::undef::undef::undef::undef::undef::undef::undef::undef::undef::[]), []⟩) (by kernel_rfl) rfl (by kernel_rfl) (y_ent rfl rfl HC.out.2) ?_
    obtain ⟨h7, hh7⟩ : ∃ h7, h7 = w3.heap.size := ⟨_, rfl⟩
    refine HD.wl_takeF (d := some 7) (v := (.pointer (some ⟨h7, 0, none⟩))) (a' := ⟨List.toArray ((.pointer (some ⟨r, 0, none⟩))::(.agg k.L.toArray)::undef::(.pointer (some ⟨h0, 0, none⟩))::(.pointer (some ⟨(h0 + 1), 0, none⟩))::(.bool false)::(.int .i64 (at_ : Int))::(.pointer (some ⟨h7, 0, none⟩))::undef::undef::(.pointer (some ⟨r, 0, none⟩))::(.agg k.L.toArray)::(.int .i64 (at_ : Int))::(.int .i64 (at_ : Int))::(.bool false)::undef::(.pointer (some ⟨r, 0, none⟩))::(.pointer (some ⟨r, 0, none⟩))::(.pointer (some ⟨r, 0, none⟩))::(.slice (some ⟨ba, oa, none⟩) l.length c)::(.int .i64 (at_ : Int))::(.pointer (some ⟨ba, oa + at_ * 36, none⟩))::(.pointer (some ⟨ba, oa + at_ * 36 + 32, none⟩))::(.agg xa.2.L.toArray)::undef::undef::undef::undef::undef::undef::undef::undef::undef::undef::undef::undef::undef::undef::undef::undef::undef::undef::undef::undef::undef::undef::undef::undef::undef::undef::undef::[]), []⟩) (by kernel_rfl) rfl (by kernel_rfl) (by rw [hh7]; exact y_allocE rfl) ?_
    refine wl_entF (a' := ⟨List.toArray ((.pointer (some ⟨r, 0, none⟩))::(.agg k.L.toArray)::undef::(.pointer (some ⟨h0, 0, none⟩))::(.pointer (some ⟨(h0 + 1), 0, none⟩))::(.bool false)::(.int .i64 (at_ : Int))::(.pointer (some ⟨h7, 0, none⟩))::undef::undef::(.pointer (some ⟨r, 0, none⟩))::(.agg k.L.toArray)::(.int .i64 (at_ : Int))::(.int .i64 (at_ : Int))::(.bool false)::undef::(.pointer (some ⟨r, 0, none⟩))::(.pointer (some ⟨r, 0, none⟩))::(.pointer (some ⟨r, 0, none⟩))::(.slice (some ⟨ba, oa, none⟩) l.length c)::(.int .i64 (at_ : Int))::(.pointer (some ⟨ba, oa + at_ * 36, none⟩))::(.pointer (some ⟨ba, oa + at_ * 36 + 32, none⟩))::(.agg xa.2.L.toArray)::undef::undef::undef::undef::undef::undef::undef::undef::undef::undef::undef::undef::undef::undef::undef::undef::undef::undef::undef::undef::undef::undef::undef::undef::undef::undef::undef::[]), []⟩) rfl h7 xa.2 (by kernel_rfl) rfl (by kernel_rfl) rfl rfl (by rw [hh7]; exact Blk.new w3 56 e0.L.toArray) ?_
    have hfe := fresh_ent w3 xa.2
    have hbe : Blk ((w3.alloc (.cells e0.L.toArray 56)).setCells w3.heap.size 0 xa.2.L) w3.heap.size 56 xa.2.L.toArray := blk_sets w3.heap.size xa.2.L 0 e0.L _ (Blk.new w3 56 e0.L.toArray) (Nat.le_refl 4)
    rw [← hh7] at hfe hbe
    obtain ⟨w4, hw4⟩ : ∃ w4, w4 = (w3.alloc (.cells e0.L.toArray 56)).setCells h7 0 xa.2.L := ⟨_, rfl⟩
    rw [← hw4] at hfe hbe ⊢
    have H4 := Lib.hid (And.intro hfe hbe)
    clear hfe hbe hw4 hh7
    refine HD.wl_done ?_
    go_wp2_with fail
    obtain ⟨w40, hw40⟩ : ∃ w40, w40 = w4.heap.size := ⟨_, rfl⟩
    have HW4 := Lib.hid (Nat.le_of_eq hw40.symm)
    have HW4' := Lib.hid (Nat.le_of_eq hw40)
    clear hw40
    go_loopw [8, 9] (fun v8 v9 w' => ∃ j : Nat, j ≤ l.length ∧ v9 = .int .i64 (j : Int) ∧ KvRow w' w40 v8 (less (l.take j) k) ∧ Mod no w4 w') (fun _ v9 _ => l.length - (intOf v9).toNat)
    case atStart => exact ⟨0, Nat.zero_le _, rfl, KvRow.nil _ _, Mod.refl _ _⟩
    case round =>
      obtain ⟨j, hj, rfl, hrow, hm⟩ := hrel
      have HJ := Lib.hid (And.intro hrow (And.intro hm (And.intro ((HF.out.2.2.1.mod H4.out.1 (fun c => c)).mod hm (fun c => c)) (show (less (l.take j) k).length ≤ 2097152 by
        have h1 : (less (l.take j) k).length ≤ (l.take j).length := List.length_filter_le _ _
        rw [List.length_take] at h1
        have := HA.out.2.2.2.1
        omega))))
      clear hrow hm
      by_cases hlt : j < l.length
      · obtain ⟨x, hx⟩ : ∃ x, l[j]? = some x := ⟨_, List.getElem?_eq_getElem hlt⟩
        obtain ⟨b, o, hAb, hr⟩ := HR.out j x hx
        injection hAb with hAb
        injection hAb with hb1 hb2
        subst hb1 hb2
        have d2 : decide ((j : Int) < (l.length : Int)) = true := decide_eq_true (by omega)
        have HM := Lib.hid (show l.length - ((j : Int) + 1).toNat < l.length - ((j : Int)).toNat by omega)
        have HI := Lib.hid (And.intro hlt (range_mod (range_mod hr H4.out.1 (fun c => c)) HJ.out.2.1 (fun c => c)))
        have htk : l.take (j + 1) = l.take j ++ [x] := by rw [List.take_add_one, hx]; rfl
        clear hr hj hlt
        go_upto_region 7 with fail
        refine HD.wl_begin ?_
        refine HD.wl_takeF (d := some 24) (v := (.int .i64 (j : Int))) (by kernel_rfl) rfl rfl (y_move rfl rfl) ?_
        refine HD.wl_takeF (d := some 25) (v := (.pointer (some ⟨r, 0, none⟩))) (by kernel_rfl) rfl rfl (y_move rfl rfl) ?_
        refine HD.wl_takeF (d := some 26) (v := (.pointer (some ⟨r, 0, none⟩))) (a' := ⟨List.toArray ((.pointer (some ⟨r, 0, none⟩))::(.agg k.L.toArray)::undef::(.pointer (some ⟨h0, 0, none⟩))::(.pointer (some ⟨(h0 + 1), 0, none⟩))::(.bool false)::(.int .i64 (at_ : Int))::(.pointer (some ⟨h7, 0, none⟩))::u8::(.int .i64 (j : Int))::(.pointer (some ⟨r, 0, none⟩))::(.agg k.L.toArray)::(.int .i64 (at_ : Int))::(.int .i64 (at_ : Int))::(.bool false)::undef::(.pointer (some ⟨r, 0, none⟩))::(.pointer (some ⟨r, 0, none⟩))::(.pointer (some ⟨r, 0, none⟩))::(.slice (some ⟨ba, oa, none⟩) l.length c)::(.int .i64 (at_ : Int))::(.pointer (some ⟨ba, oa + at_ * 36, none⟩))::(.pointer (some ⟨ba, oa + at_ * 36 + 32, none⟩))::(.agg xa.2.L.toArray)::(.int .i64 (j : Int))::(.pointer (some ⟨r, 0, none⟩))::(.pointer (some ⟨r, 0, none⟩))::u27::u28::u29::u30::u31::u32::u33::u34::u35::u36::u37::u38::u39::u40::u41::u42::u43::u44::u45::undef::undef::undef::undef::undef::[]), []⟩) (by kernel_rfl) rfl (by kernel_rfl) (y_nil rfl rfl) ?_
        refine HD.wl_takeF (d := some 27) (v := (.pointer (some ⟨r, 0, none⟩))) (by kernel_rfl) rfl rfl (y_fri rfl rfl) ?_
        refine HD.wl_takeF (d := some 28) (v := (.slice (some ⟨ba, oa, none⟩) l.length c)) (by kernel_rfl) rfl rfl (y_ldkv rfl rfl (HJ.out.2.2.1.cell 0)) ?_
        refine HD.wl_takeF (d := some 29) (v := (.int .i64 (l.length : Int))) (a' := ⟨List.toArray ((.pointer (some ⟨r, 0, none⟩))::(.agg k.L.toArray)::undef::(.pointer (some ⟨h0, 0, none⟩))::(.pointer (some ⟨(h0 + 1), 0, none⟩))::(.bool false)::(.int .i64 (at_ : Int))::(.pointer (some ⟨h7, 0, none⟩))::u8::(.int .i64 (j : Int))::(.pointer (some ⟨r, 0, none⟩))::(.agg k.L.toArray)::(.int .i64 (at_ : Int))::(.int .i64 (at_ : Int))::(.bool false)::undef::(.pointer (some ⟨r, 0, none⟩))::(.pointer (some ⟨r, 0, none⟩))::(.pointer (some ⟨r, 0, none⟩))::(.slice (some ⟨ba, oa, none⟩) l.length c)::(.int .i64 (at_ : Int))::(.pointer (some ⟨ba, oa + at_ * 36, none⟩))::(.pointer (some ⟨ba, oa + at_ * 36 + 32, none⟩))::(.agg xa.2.L.toArray)::(.int .i64 (j : Int))::(.pointer (some ⟨r, 0, none⟩))::(.pointer (some ⟨r, 0, none⟩))::(.pointer (some ⟨r, 0, none⟩))::(.slice (some ⟨ba, oa, none⟩) l.length c)::(.int .i64 (l.length : Int))::u30::u31::u32::u33::u34::u35::u36::u37::u38::u39::u40::u41::u42::u43::u44::u45::undef::undef::undef::undef::undef::[]), []⟩) (by kernel_rfl) rfl (by kernel_rfl) (y_lenkv rfl rfl) ?_
        refine HD.wl_takeF (d := some 30) (v := (.bool true)) (a' := ⟨List.toArray ((.pointer (some ⟨r, 0, none⟩))::(.agg k.L.toArray)::undef::(.pointer (some ⟨h0, 0, none⟩))::(.pointer (some ⟨(h0 + 1), 0, none⟩))::(.bool false)::(.int .i64 (at_ : Int))::(.pointer (some ⟨h7, 0, none⟩))::u8::(.int .i64 (j : Int))::(.pointer (some ⟨r, 0, none⟩))::(.agg k.L.toArray)::(.int .i64 (at_ : Int))::(.int .i64 (at_ : Int))::(.bool false)::undef::(.pointer (some ⟨r, 0, none⟩))::(.pointer (some ⟨r, 0, none⟩))::(.pointer (some ⟨r, 0, none⟩))::(.slice (some ⟨ba, oa, none⟩) l.length c)::(.int .i64 (at_ : Int))::(.pointer (some ⟨ba, oa + at_ * 36, none⟩))::(.pointer (some ⟨ba, oa + at_ * 36 + 32, none⟩))::(.agg xa.2.L.toArray)::(.int .i64 (j : Int))::(.pointer (some ⟨r, 0, none⟩))::(.pointer (some ⟨r, 0, none⟩))::(.pointer (some ⟨r, 0, none⟩))::(.slice (some ⟨ba, oa, none⟩) l.length c)::(.int .i64 (l.length : Int))::(.bool true)::u31::u32::u33::u34::u35::u36::u37::u38::u39::u40::u41::u42::u43::u44::u45::undef::undef::undef::undef::undef::[]), []⟩) (by kernel_rfl) rfl (by kernel_rfl) (y_lssi d2 rfl rfl rfl) ?_
        refine HD.wl_done ?_
        by_cases hja : j = at_
        · have d3 : decide ((j : Int) = (at_ : Int)) = true := decide_eq_true (by rw [hja])
          go_upto_region 9 with fail
          refine HD.wl_begin ?_
          refine HD.wl_takeF (d := some 33) (v := (.int .i64 (j : Int))) (by kernel_rfl) rfl rfl (y_move rfl rfl) ?_
          refine HD.wl_takeF (d := some 34) (v := (.int .i64 (at_ : Int))) (by kernel_rfl) rfl rfl (y_move rfl rfl) ?_
          refine HD.wl_takeF (d := some 35) (v := (.bool false)) (a' := ⟨List.toArray ((.pointer (some ⟨r, 0, none⟩))::(.agg k.L.toArray)::undef::(.pointer (some ⟨h0, 0, none⟩))::(.pointer (some ⟨(h0 + 1), 0, none⟩))::(.bool false)::(.int .i64 (at_ : Int))::(.pointer (some ⟨h7, 0, none⟩))::u8::(.int .i64 (j : Int))::(.pointer (some ⟨r, 0, none⟩))::(.agg k.L.toArray)::(.int .i64 (at_ : Int))::(.int .i64 (at_ : Int))::(.bool false)::undef::(.pointer (some ⟨r, 0, none⟩))::(.pointer (some ⟨r, 0, none⟩))::(.pointer (some ⟨r, 0, none⟩))::(.slice (some ⟨ba, oa, none⟩) l.length c)::(.int .i64 (at_ : Int))::(.pointer (some ⟨ba, oa + at_ * 36, none⟩))::(.pointer (some ⟨ba, oa + at_ * 36 + 32, none⟩))::(.agg xa.2.L.toArray)::(.int .i64 (j : Int))::(.pointer (some ⟨r, 0, none⟩))::(.pointer (some ⟨r, 0, none⟩))::(.pointer (some ⟨r, 0, none⟩))::(.slice (some ⟨ba, oa, none⟩) l.length c)::(.int .i64 (l.length : Int))::(.bool true)::u31::u32::(.int .i64 (j : Int))::(.int .i64 (at_ : Int))::(.bool false)::u36::u37::u38::u39::u40::u41::u42::u43::u44::u45::undef::undef::undef::undef::undef::[]), []⟩) (by kernel_rfl) rfl (by kernel_rfl) (y_neqi (d := true) d3 rfl rfl rfl) ?_
          refine HD.wl_done ?_
          have hxe : x = xa := by rw [hja, hxa] at hx; injection hx with hx; exact hx.symm
          go_upto_region 8 with fail
          refine HD.wl_begin ?_
          refine HD.wl_takeF (d := some 31) (v := (.int .i64 (j : Int))) (by kernel_rfl) rfl rfl (y_move rfl rfl) ?_
          refine HD.wl_takeF (d := some 32) (v := (.int .i64 ((j : Int) + 1))) (by kernel_rfl) rfl rfl (y_addi (by have := HI.out.1; have := HA.out.2.2.2.1; omega) rfl rfl rfl) ?_
          refine HD.wl_takeF (d := some 9) (v := (.int .i64 ((j : Int) + 1))) (a' := ⟨List.toArray ((.pointer (some ⟨r, 0, none⟩))::(.agg k.L.toArray)::undef::(.pointer (some ⟨h0, 0, none⟩))::(.pointer (some ⟨(h0 + 1), 0, none⟩))::(.bool false)::(.int .i64 (at_ : Int))::(.pointer (some ⟨h7, 0, none⟩))::u8::(.int .i64 ((j : Int) + 1))::(.pointer (some ⟨r, 0, none⟩))::(.agg k.L.toArray)::(.int .i64 (at_ : Int))::(.int .i64 (at_ : Int))::(.bool false)::undef::(.pointer (some ⟨r, 0, none⟩))::(.pointer (some ⟨r, 0, none⟩))::(.pointer (some ⟨r, 0, none⟩))::(.slice (some ⟨ba, oa, none⟩) l.length c)::(.int .i64 (at_ : Int))::(.pointer (some ⟨ba, oa + at_ * 36, none⟩))::(.pointer (some ⟨ba, oa + at_ * 36 + 32, none⟩))::(.agg xa.2.L.toArray)::(.int .i64 (j : Int))::(.pointer (some ⟨r, 0, none⟩))::(.pointer (some ⟨r, 0, none⟩))::(.pointer (some ⟨r, 0, none⟩))::(.slice (some ⟨ba, oa, none⟩) l.length c)::(.int .i64 (l.length : Int))::(.bool true)::(.int .i64 (j : Int))::(.int .i64 ((j : Int) + 1))::(.int .i64 (j : Int))::(.int .i64 (at_ : Int))::(.bool false)::u36::u37::u38::u39::u40::u41::u42::u43::u44::u45::undef::undef::undef::undef::undef::[]), []⟩) (by kernel_rfl) rfl (by kernel_rfl) (y_assign rfl rfl) ?_
          refine HD.wl_done ?_
          exact ⟨⟨_, _, _, _, _, _, _, _, _, _, _, _, _, _, _, _, _, _, _, _, _, _, _, _, ⟨j + 1, HI.out.1, rfl, by rw [htk, less_snoc, if_pos (by rw [hxe]; exact hxk)]; exact HJ.out.1, HJ.out.2.1⟩, rfl⟩, HM.out⟩
        · have d3 : decide ((j : Int) = (at_ : Int)) = false := decide_eq_false (by omega)
          have hxn : ¬ x.1 = k := fun e => by
            have h1 := List.getElem?_eq_some_iff.1 hx
            have h2 := List.getElem?_eq_some_iff.1 hxa
            have hnd := HA.out.2.2.1
            have h3 : (l.map Prod.fst)[j]? = (l.map Prod.fst)[at_]? := by rw [List.getElem?_map, List.getElem?_map, hx, hxa]; simp [e, hxk]
            exact hja ((List.getElem?_inj (by rw [List.length_map]; exact h1.1) hnd).1 h3)
          go_upto_region 9 with fail
          refine HD.wl_begin ?_
          refine HD.wl_takeF (d := some 33) (v := (.int .i64 (j : Int))) (by kernel_rfl) rfl rfl (y_move rfl rfl) ?_
          refine HD.wl_takeF (d := some 34) (v := (.int .i64 (at_ : Int))) (by kernel_rfl) rfl rfl (y_move rfl rfl) ?_
          refine HD.wl_takeF (d := some 35) (v := (.bool true)) (a' := ⟨List.toArray ((.pointer (some ⟨r, 0, none⟩))::(.agg k.L.toArray)::undef::(.pointer (some ⟨h0, 0, none⟩))::(.pointer (some ⟨(h0 + 1), 0, none⟩))::(.bool false)::(.int .i64 (at_ : Int))::(.pointer (some ⟨h7, 0, none⟩))::u8::(.int .i64 (j : Int))::(.pointer (some ⟨r, 0, none⟩))::(.agg k.L.toArray)::(.int .i64 (at_ : Int))::(.int .i64 (at_ : Int))::(.bool false)::undef::(.pointer (some ⟨r, 0, none⟩))::(.pointer (some ⟨r, 0, none⟩))::(.pointer (some ⟨r, 0, none⟩))::(.slice (some ⟨ba, oa, none⟩) l.length c)::(.int .i64 (at_ : Int))::(.pointer (some ⟨ba, oa + at_ * 36, none⟩))::(.pointer (some ⟨ba, oa + at_ * 36 + 32, none⟩))::(.agg xa.2.L.toArray)::(.int .i64 (j : Int))::(.pointer (some ⟨r, 0, none⟩))::(.pointer (some ⟨r, 0, none⟩))::(.pointer (some ⟨r, 0, none⟩))::(.slice (some ⟨ba, oa, none⟩) l.length c)::(.int .i64 (l.length : Int))::(.bool true)::u31::u32::(.int .i64 (j : Int))::(.int .i64 (at_ : Int))::(.bool true)::u36::u37::u38::u39::u40::u41::u42::u43::u44::u45::undef::undef::undef::undef::undef::[]), []⟩) (by kernel_rfl) rfl (by kernel_rfl) (y_neqi (d := false) d3 rfl rfl rfl) ?_
          refine HD.wl_done ?_
          go_upto_region 10 with fail
          refine HD.wl_begin ?_
          refine HD.wl_takeF (d := some 36) (v := (u8)) (by kernel_rfl) rfl rfl (y_move rfl rfl) ?_
          refine HD.wl_takeF (d := some 37) (v := (.pointer (some ⟨r, 0, none⟩))) (by kernel_rfl) rfl rfl (y_move rfl rfl) ?_
          refine HD.wl_takeF (d := some 38) (v := (.pointer (some ⟨r, 0, none⟩))) (a' := ⟨List.toArray ((.pointer (some ⟨r, 0, none⟩))::(.agg k.L.toArray)::undef::(.pointer (some ⟨h0, 0, none⟩))::(.pointer (some ⟨(h0 + 1), 0, none⟩))::(.bool false)::(.int .i64 (at_ : Int))::(.pointer (some ⟨h7, 0, none⟩))::u8::(.int .i64 (j : Int))::(.pointer (some ⟨r, 0, none⟩))::(.agg k.L.toArray)::(.int .i64 (at_ : Int))::(.int .i64 (at_ : Int))::(.bool false)::undef::(.pointer (some ⟨r, 0, none⟩))::(.pointer (some ⟨r, 0, none⟩))::(.pointer (some ⟨r, 0, none⟩))::(.slice (some ⟨ba, oa, none⟩) l.length c)::(.int .i64 (at_ : Int))::(.pointer (some ⟨ba, oa + at_ * 36, none⟩))::(.pointer (some ⟨ba, oa + at_ * 36 + 32, none⟩))::(.agg xa.2.L.toArray)::(.int .i64 (j : Int))::(.pointer (some ⟨r, 0, none⟩))::(.pointer (some ⟨r, 0, none⟩))::(.pointer (some ⟨r, 0, none⟩))::(.slice (some ⟨ba, oa, none⟩) l.length c)::(.int .i64 (l.length : Int))::(.bool true)::u31::u32::(.int .i64 (j : Int))::(.int .i64 (at_ : Int))::(.bool true)::(u8)::(.pointer (some ⟨r, 0, none⟩))::(.pointer (some ⟨r, 0, none⟩))::u39::u40::u41::u42::u43::u44::u45::undef::undef::undef::undef::undef::[]), []⟩) (by kernel_rfl) rfl (by kernel_rfl) (y_nil rfl rfl) ?_
          refine HD.wl_takeF (d := some 39) (v := (.pointer (some ⟨r, 0, none⟩))) (by kernel_rfl) rfl rfl (y_fri rfl rfl) ?_
          refine HD.wl_takeF (d := some 40) (v := (.slice (some ⟨ba, oa, none⟩) l.length c)) (by kernel_rfl) rfl rfl (y_ldkv rfl rfl (HJ.out.2.2.1.cell 0)) ?_
          refine HD.wl_takeF (d := some 41) (v := (.int .i64 (j : Int))) (a' := ⟨List.toArray ((.pointer (some ⟨r, 0, none⟩))::(.agg k.L.toArray)::undef::(.pointer (some ⟨h0, 0, none⟩))::(.pointer (some ⟨(h0 + 1), 0, none⟩))::(.bool false)::(.int .i64 (at_ : Int))::(.pointer (some ⟨h7, 0, none⟩))::u8::(.int .i64 (j : Int))::(.pointer (some ⟨r, 0, none⟩))::(.agg k.L.toArray)::(.int .i64 (at_ : Int))::(.int .i64 (at_ : Int))::(.bool false)::undef::(.pointer (some ⟨r, 0, none⟩))::(.pointer (some ⟨r, 0, none⟩))::(.pointer (some ⟨r, 0, none⟩))::(.slice (some ⟨ba, oa, none⟩) l.length c)::(.int .i64 (at_ : Int))::(.pointer (some ⟨ba, oa + at_ * 36, none⟩))::(.pointer (some ⟨ba, oa + at_ * 36 + 32, none⟩))::(.agg xa.2.L.toArray)::(.int .i64 (j : Int))::(.pointer (some ⟨r, 0, none⟩))::(.pointer (some ⟨r, 0, none⟩))::(.pointer (some ⟨r, 0, none⟩))::(.slice (some ⟨ba, oa, none⟩) l.length c)::(.int .i64 (l.length : Int))::(.bool true)::u31::u32::(.int .i64 (j : Int))::(.int .i64 (at_ : Int))::(.bool true)::(u8)::(.pointer (some ⟨r, 0, none⟩))::(.pointer (some ⟨r, 0, none⟩))::(.pointer (some ⟨r, 0, none⟩))::(.slice (some ⟨ba, oa, none⟩) l.length c)::(.int .i64 (j : Int))::u42::u43::u44::u45::undef::undef::undef::undef::undef::[]), []⟩) (by kernel_rfl) rfl (by kernel_rfl) (y_move rfl rfl) ?_
          refine HD.wl_takeF (d := some 42) (v := (.pointer (some ⟨ba, oa + j * 36, none⟩))) (by kernel_rfl) rfl rfl (y_ixkv rfl rfl rfl HI.out.1) ?_
          refine HD.wl_takeF (d := some 43) (v := (.agg (pairL x).toArray)) (a' := ⟨List.toArray ((.pointer (some ⟨r, 0, none⟩))::(.agg k.L.toArray)::undef::(.pointer (some ⟨h0, 0, none⟩))::(.pointer (some ⟨(h0 + 1), 0, none⟩))::(.bool false)::(.int .i64 (at_ : Int))::(.pointer (some ⟨h7, 0, none⟩))::u8::(.int .i64 (j : Int))::(.pointer (some ⟨r, 0, none⟩))::(.agg k.L.toArray)::(.int .i64 (at_ : Int))::(.int .i64 (at_ : Int))::(.bool false)::undef::(.pointer (some ⟨r, 0, none⟩))::(.pointer (some ⟨r, 0, none⟩))::(.pointer (some ⟨r, 0, none⟩))::(.slice (some ⟨ba, oa, none⟩) l.length c)::(.int .i64 (at_ : Int))::(.pointer (some ⟨ba, oa + at_ * 36, none⟩))::(.pointer (some ⟨ba, oa + at_ * 36 + 32, none⟩))::(.agg xa.2.L.toArray)::(.int .i64 (j : Int))::(.pointer (some ⟨r, 0, none⟩))::(.pointer (some ⟨r, 0, none⟩))::(.pointer (some ⟨r, 0, none⟩))::(.slice (some ⟨ba, oa, none⟩) l.length c)::(.int .i64 (l.length : Int))::(.bool true)::u31::u32::(.int .i64 (j : Int))::(.int .i64 (at_ : Int))::(.bool true)::(u8)::(.pointer (some ⟨r, 0, none⟩))::(.pointer (some ⟨r, 0, none⟩))::(.pointer (some ⟨r, 0, none⟩))::(.slice (some ⟨ba, oa, none⟩) l.length c)::(.int .i64 (j : Int))::(.pointer (some ⟨ba, oa + j * 36, none⟩))::(.agg (pairL x).toArray)::u44::u45::undef::undef::undef::undef::undef::[]), []⟩) (by kernel_rfl) rfl (by kernel_rfl) (y_pairkv rfl rfl HI.out.2) ?_
          obtain ⟨h16, hh16⟩ : ∃ h16, h16 = wr.heap.size := ⟨_, rfl⟩
          refine HD.wl_takeF (d := some 44) (v := (.slice (some ⟨h16, 0, none⟩) 1 1)) (a' := ⟨List.toArray ((.pointer (some ⟨r, 0, none⟩))::(.agg k.L.toArray)::undef::(.pointer (some ⟨h0, 0, none⟩))::(.pointer (some ⟨(h0 + 1), 0, none⟩))::(.bool false)::(.int .i64 (at_ : Int))::(.pointer (some ⟨h7, 0, none⟩))::u8::(.int .i64 (j : Int))::(.pointer (some ⟨r, 0, none⟩))::(.agg k.L.toArray)::(.int .i64 (at_ : Int))::(.int .i64 (at_ : Int))::(.bool false)::undef::(.pointer (some ⟨r, 0, none⟩))::(.pointer (some ⟨r, 0, none⟩))::(.pointer (some ⟨r, 0, none⟩))::(.slice (some ⟨ba, oa, none⟩) l.length c)::(.int .i64 (at_ : Int))::(.pointer (some ⟨ba, oa + at_ * 36, none⟩))::(.pointer (some ⟨ba, oa + at_ * 36 + 32, none⟩))::(.agg xa.2.L.toArray)::(.int .i64 (j : Int))::(.pointer (some ⟨r, 0, none⟩))::(.pointer (some ⟨r, 0, none⟩))::(.pointer (some ⟨r, 0, none⟩))::(.slice (some ⟨ba, oa, none⟩) l.length c)::(.int .i64 (l.length : Int))::(.bool true)::u31::u32::(.int .i64 (j : Int))::(.int .i64 (at_ : Int))::(.bool true)::(u8)::(.pointer (some ⟨r, 0, none⟩))::(.pointer (some ⟨r, 0, none⟩))::(.pointer (some ⟨r, 0, none⟩))::(.slice (some ⟨ba, oa, none⟩) l.length c)::(.int .i64 (j : Int))::(.pointer (some ⟨ba, oa + j * 36, none⟩))::(.agg (pairL x).toArray)::(.slice (some ⟨h16, 0, none⟩) 1 1)::u45::undef::undef::undef::undef::undef::[]), []⟩) (by kernel_rfl) rfl (by kernel_rfl) (by rw [hh16]; exact y_kvslice rfl rfl) ?_
          have mA : Mod no wr (wr.alloc (.cells (pairL x).toArray 58)) := (Mod.refl no wr).alloc _
          have hb16 : Blk (wr.alloc (.cells (pairL x).toArray 58)) h16 58 (pairL x).toArray := by rw [hh16]; exact Blk.new _ _ _
          refine wl_kvapp (d := some 45) (fun v' => ⟨List.toArray ((.pointer (some ⟨r, 0, none⟩))::(.agg k.L.toArray)::undef::(.pointer (some ⟨h0, 0, none⟩))::(.pointer (some ⟨(h0 + 1), 0, none⟩))::(.bool false)::(.int .i64 (at_ : Int))::(.pointer (some ⟨h7, 0, none⟩))::u8::(.int .i64 (j : Int))::(.pointer (some ⟨r, 0, none⟩))::(.agg k.L.toArray)::(.int .i64 (at_ : Int))::(.int .i64 (at_ : Int))::(.bool false)::undef::(.pointer (some ⟨r, 0, none⟩))::(.pointer (some ⟨r, 0, none⟩))::(.pointer (some ⟨r, 0, none⟩))::(.slice (some ⟨ba, oa, none⟩) l.length c)::(.int .i64 (at_ : Int))::(.pointer (some ⟨ba, oa + at_ * 36, none⟩))::(.pointer (some ⟨ba, oa + at_ * 36 + 32, none⟩))::(.agg xa.2.L.toArray)::(.int .i64 (j : Int))::(.pointer (some ⟨r, 0, none⟩))::(.pointer (some ⟨r, 0, none⟩))::(.pointer (some ⟨r, 0, none⟩))::(.slice (some ⟨ba, oa, none⟩) l.length c)::(.int .i64 (l.length : Int))::(.bool true)::u31::u32::(.int .i64 (j : Int))::(.int .i64 (at_ : Int))::(.bool true)::(u8)::(.pointer (some ⟨r, 0, none⟩))::(.pointer (some ⟨r, 0, none⟩))::(.pointer (some ⟨r, 0, none⟩))::(.slice (some ⟨ba, oa, none⟩) l.length c)::(.int .i64 (j : Int))::(.pointer (some ⟨ba, oa + j * 36, none⟩))::(.agg (pairL x).toArray)::(.slice (some ⟨h16, 0, none⟩) 1 1)::(v')::undef::undef::undef::undef::undef::[]), []⟩) rfl rfl rfl (fun _ => by kernel_rfl) w40 h16 u8 (less (l.take j) k) x rfl rfl (HJ.out.1.mod mA (fun _ _ c => c)) hb16 HJ.out.2.2.2 (by have h1 := HJ.out.2.1.size; have h2 := HW4'.out; have h3 := mA.size; omega) ?_
          intro v8 w6 q1 q2 _
          have HP := Lib.hid (And.intro q1 (kv_mod (w0 := w4) (HJ.out.1.mod mA (fun _ _ c => c)) q2 HW4.out (HJ.out.2.1.and_then mA)))
          clear q1 q2 hb16 mA hh16
          refine HD.wl_takeF (d := some 8) (v := (v8)) (a' := ⟨List.toArray ((.pointer (some ⟨r, 0, none⟩))::(.agg k.L.toArray)::undef::(.pointer (some ⟨h0, 0, none⟩))::(.pointer (some ⟨(h0 + 1), 0, none⟩))::(.bool false)::(.int .i64 (at_ : Int))::(.pointer (some ⟨h7, 0, none⟩))::(v8)::(.int .i64 (j : Int))::(.pointer (some ⟨r, 0, none⟩))::(.agg k.L.toArray)::(.int .i64 (at_ : Int))::(.int .i64 (at_ : Int))::(.bool false)::undef::(.pointer (some ⟨r, 0, none⟩))::(.pointer (some ⟨r, 0, none⟩))::(.pointer (some ⟨r, 0, none⟩))::(.slice (some ⟨ba, oa, none⟩) l.length c)::(.int .i64 (at_ : Int))::(.pointer (some ⟨ba, oa + at_ * 36, none⟩))::(.pointer (some ⟨ba, oa + at_ * 36 + 32, none⟩))::(.agg xa.2.L.toArray)::(.int .i64 (j : Int))::(.pointer (some ⟨r, 0, none⟩))::(.pointer (some ⟨r, 0, none⟩))::(.pointer (some ⟨r, 0, none⟩))::(.slice (some ⟨ba, oa, none⟩) l.length c)::(.int .i64 (l.length : Int))::(.bool true)::u31::u32::(.int .i64 (j : Int))::(.int .i64 (at_ : Int))::(.bool true)::(u8)::(.pointer (some ⟨r, 0, none⟩))::(.pointer (some ⟨r, 0, none⟩))::(.pointer (some ⟨r, 0, none⟩))::(.slice (some ⟨ba, oa, none⟩) l.length c)::(.int .i64 (j : Int))::(.pointer (some ⟨ba, oa + j * 36, none⟩))::(.agg (pairL x).toArray)::(.slice (some ⟨h16, 0, none⟩) 1 1)::(v8)::undef::undef::undef::undef::undef::[]), []⟩) (by kernel_rfl) rfl (by kernel_rfl) (y_assign rfl rfl) ?_
          refine HD.wl_done ?_
          go_upto_region 8 with fail
          refine HD.wl_begin ?_
          refine HD.wl_takeF (d := some 31) (v := (.int .i64 (j : Int))) (by kernel_rfl) rfl rfl (y_move rfl rfl) ?_
          refine HD.wl_takeF (d := some 32) (v := (.int .i64 ((j : Int) + 1))) (by kernel_rfl) rfl rfl (y_addi (by have := HI.out.1; have := HA.out.2.2.2.1; omega) rfl rfl rfl) ?_
          refine HD.wl_takeF (d := some 9) (v := (.int .i64 ((j : Int) + 1))) (a' := ⟨List.toArray ((.pointer (some ⟨r, 0, none⟩))::(.agg k.L.toArray)::undef::(.pointer (some ⟨h0, 0, none⟩))::(.pointer (some ⟨(h0 + 1), 0, none⟩))::(.bool false)::(.int .i64 (at_ : Int))::(.pointer (some ⟨h7, 0, none⟩))::(v8)::(.int .i64 ((j : Int) + 1))::(.pointer (some ⟨r, 0, none⟩))::(.agg k.L.toArray)::(.int .i64 (at_ : Int))::(.int .i64 (at_ : Int))::(.bool false)::undef::(.pointer (some ⟨r, 0, none⟩))::(.pointer (some ⟨r, 0, none⟩))::(.pointer (some ⟨r, 0, none⟩))::(.slice (some ⟨ba, oa, none⟩) l.length c)::(.int .i64 (at_ : Int))::(.pointer (some ⟨ba, oa + at_ * 36, none⟩))::(.pointer (some ⟨ba, oa + at_ * 36 + 32, none⟩))::(.agg xa.2.L.toArray)::(.int .i64 (j : Int))::(.pointer (some ⟨r, 0, none⟩))::(.pointer (some ⟨r, 0, none⟩))::(.pointer (some ⟨r, 0, none⟩))::(.slice (some ⟨ba, oa, none⟩) l.length c)::(.int .i64 (l.length : Int))::(.bool true)::(.int .i64 (j : Int))::(.int .i64 ((j : Int) + 1))::(.int .i64 (j : Int))::(.int .i64 (at_ : Int))::(.bool true)::(u8)::(.pointer (some ⟨r, 0, none⟩))::(.pointer (some ⟨r, 0, none⟩))::(.pointer (some ⟨r, 0, none⟩))::(.slice (some ⟨ba, oa, none⟩) l.length c)::(.int .i64 (j : Int))::(.pointer (some ⟨ba, oa + j * 36, none⟩))::(.agg (pairL x).toArray)::(.slice (some ⟨h16, 0, none⟩) 1 1)::(v8)::undef::undef::undef::undef::undef::[]), []⟩) (by kernel_rfl) rfl (by kernel_rfl) (y_assign rfl rfl) ?_
          refine HD.wl_done ?_
          exact ⟨⟨_, _, _, _, _, _, _, _, _, _, _, _, _, _, _, _, _, _, _, _, _, _, _, _, ⟨j + 1, HI.out.1, rfl, by rw [htk, less_snoc, if_neg hxn]; exact HP.out.1, HP.out.2⟩, rfl⟩, HM.out⟩
      · obtain rfl : j = l.length := by omega
        have d2 : decide ((l.length : Int) < (l.length : Int)) = false := decide_eq_false (by omega)
        clear hlt hj
        go_upto_region 7 with fail
        refine HD.wl_begin ?_
        refine HD.wl_takeF (d := some 24) (v := (.int .i64 (l.length : Int))) (by kernel_rfl) rfl rfl (y_move rfl rfl) ?_
        refine HD.wl_takeF (d := some 25) (v := (.pointer (some ⟨r, 0, none⟩))) (by kernel_rfl) rfl rfl (y_move rfl rfl) ?_
        refine HD.wl_takeF (d := some 26) (v := (.pointer (some ⟨r, 0, none⟩))) (a' := ⟨List.toArray ((.pointer (some ⟨r, 0, none⟩))::(.agg k.L.toArray)::undef::(.pointer (some ⟨h0, 0, none⟩))::(.pointer (some ⟨(h0 + 1), 0, none⟩))::(.bool false)::(.int .i64 (at_ : Int))::(.pointer (some ⟨h7, 0, none⟩))::u8::(.int .i64 (l.length : Int))::(.pointer (some ⟨r, 0, none⟩))::(.agg k.L.toArray)::(.int .i64 (at_ : Int))::(.int .i64 (at_ : Int))::(.bool false)::undef::(.pointer (some ⟨r, 0, none⟩))::(.pointer (some ⟨r, 0, none⟩))::(.pointer (some ⟨r, 0, none⟩))::(.slice (some ⟨ba, oa, none⟩) l.length c)::(.int .i64 (at_ : Int))::(.pointer (some ⟨ba, oa + at_ * 36, none⟩))::(.pointer (some ⟨ba, oa + at_ * 36 + 32, none⟩))::(.agg xa.2.L.toArray)::(.int .i64 (l.length : Int))::(.pointer (some ⟨r, 0, none⟩))::(.pointer (some ⟨r, 0, none⟩))::u27::u28::u29::u30::u31::u32::u33::u34::u35::u36::u37::u38::u39::u40::u41::u42::u43::u44::u45::undef::undef::undef::undef::undef::[]), []⟩) (by kernel_rfl) rfl (by kernel_rfl) (y_nil rfl rfl) ?_
        refine HD.wl_takeF (d := some 27) (v := (.pointer (some ⟨r, 0, none⟩))) (by kernel_rfl) rfl rfl (y_fri rfl rfl) ?_
        refine HD.wl_takeF (d := some 28) (v := (.slice (some ⟨ba, oa, none⟩) l.length c)) (by kernel_rfl) rfl rfl (y_ldkv rfl rfl (HJ.out.2.2.1.cell 0)) ?_
        refine HD.wl_takeF (d := some 29) (v := (.int .i64 (l.length : Int))) (a' := ⟨List.toArray ((.pointer (some ⟨r, 0, none⟩))::(.agg k.L.toArray)::undef::(.pointer (some ⟨h0, 0, none⟩))::(.pointer (some ⟨(h0 + 1), 0, none⟩))::(.bool false)::(.int .i64 (at_ : Int))::(.pointer (some ⟨h7, 0, none⟩))::u8::(.int .i64 (l.length : Int))::(.pointer (some ⟨r, 0, none⟩))::(.agg k.L.toArray)::(.int .i64 (at_ : Int))::(.int .i64 (at_ : Int))::(.bool false)::undef::(.pointer (some ⟨r, 0, none⟩))::(.pointer (some ⟨r, 0, none⟩))::(.pointer (some ⟨r, 0, none⟩))::(.slice (some ⟨ba, oa, none⟩) l.length c)::(.int .i64 (at_ : Int))::(.pointer (some ⟨ba, oa + at_ * 36, none⟩))::(.pointer (some ⟨ba, oa + at_ * 36 + 32, none⟩))::(.agg xa.2.L.toArray)::(.int .i64 (l.length : Int))::(.pointer (some ⟨r, 0, none⟩))::(.pointer (some ⟨r, 0, none⟩))::(.pointer (some ⟨r, 0, none⟩))::(.slice (some ⟨ba, oa, none⟩) l.length c)::(.int .i64 (l.length : Int))::u30::u31::u32::u33::u34::u35::u36::u37::u38::u39::u40::u41::u42::u43::u44::u45::undef::undef::undef::undef::undef::[]), []⟩) (by kernel_rfl) rfl (by kernel_rfl) (y_lenkv rfl rfl) ?_
        refine HD.wl_takeF (d := some 30) (v := (.bool false)) (a' := ⟨List.toArray ((.pointer (some ⟨r, 0, none⟩))::(.agg k.L.toArray)::undef::(.pointer (some ⟨h0, 0, none⟩))::(.pointer (some ⟨(h0 + 1), 0, none⟩))::(.bool false)::(.int .i64 (at_ : Int))::(.pointer (some ⟨h7, 0, none⟩))::u8::(.int .i64 (l.length : Int))::(.pointer (some ⟨r, 0, none⟩))::(.agg k.L.toArray)::(.int .i64 (at_ : Int))::(.int .i64 (at_ : Int))::(.bool false)::undef::(.pointer (some ⟨r, 0, none⟩))::(.pointer (some ⟨r, 0, none⟩))::(.pointer (some ⟨r, 0, none⟩))::(.slice (some ⟨ba, oa, none⟩) l.length c)::(.int .i64 (at_ : Int))::(.pointer (some ⟨ba, oa + at_ * 36, none⟩))::(.pointer (some ⟨ba, oa + at_ * 36 + 32, none⟩))::(.agg xa.2.L.toArray)::(.int .i64 (l.length : Int))::(.pointer (some ⟨r, 0, none⟩))::(.pointer (some ⟨r, 0, none⟩))::(.pointer (some ⟨r, 0, none⟩))::(.slice (some ⟨ba, oa, none⟩) l.length c)::(.int .i64 (l.length : Int))::(.bool false)::u31::u32::u33::u34::u35::u36::u37::u38::u39::u40::u41::u42::u43::u44::u45::undef::undef::undef::undef::undef::[]), []⟩) (by kernel_rfl) rfl (by kernel_rfl) (y_lssi d2 rfl rfl rfl) ?_
        refine HD.wl_done ?_
        have hrow := HJ.out.1
        rw [List.take_length] at hrow
        obtain ⟨A8, c8, hv8⟩ := own_form hrow
        obtain ⟨n8, hn8⟩ : ∃ n8, n8 = (less l k).length := ⟨_, rfl⟩
        rw [← hn8] at hv8
        subst hv8
        clear hn8
        go_upto_region 11 with fail
        refine HD.wl_begin ?_
        refine HD.wl_takeF (d := some 46) (v := (.pointer (some ⟨r, 0, none⟩))) (by kernel_rfl) rfl rfl (y_move rfl rfl) ?_
        refine HD.wl_takeF (d := some 47) (v := (.slice A8 n8 c8)) (by kernel_rfl) rfl rfl (y_move rfl rfl) ?_
        refine HD.wl_takeF (d := some 48) (v := (.pointer (some ⟨r, 0, none⟩))) (a' := ⟨List.toArray ((.pointer (some ⟨r, 0, none⟩))::(.agg k.L.toArray)::undef::(.pointer (some ⟨h0, 0, none⟩))::(.pointer (some ⟨(h0 + 1), 0, none⟩))::(.bool false)::(.int .i64 (at_ : Int))::(.pointer (some ⟨h7, 0, none⟩))::(.slice A8 n8 c8)::(.int .i64 (l.length : Int))::(.pointer (some ⟨r, 0, none⟩))::(.agg k.L.toArray)::(.int .i64 (at_ : Int))::(.int .i64 (at_ : Int))::(.bool false)::undef::(.pointer (some ⟨r, 0, none⟩))::(.pointer (some ⟨r, 0, none⟩))::(.pointer (some ⟨r, 0, none⟩))::(.slice (some ⟨ba, oa, none⟩) l.length c)::(.int .i64 (at_ : Int))::(.pointer (some ⟨ba, oa + at_ * 36, none⟩))::(.pointer (some ⟨ba, oa + at_ * 36 + 32, none⟩))::(.agg xa.2.L.toArray)::(.int .i64 (l.length : Int))::(.pointer (some ⟨r, 0, none⟩))::(.pointer (some ⟨r, 0, none⟩))::(.pointer (some ⟨r, 0, none⟩))::(.slice (some ⟨ba, oa, none⟩) l.length c)::(.int .i64 (l.length : Int))::(.bool false)::u31::u32::u33::u34::u35::u36::u37::u38::u39::u40::u41::u42::u43::u44::u45::(.pointer (some ⟨r, 0, none⟩))::(.slice A8 n8 c8)::(.pointer (some ⟨r, 0, none⟩))::undef::undef::[]), []⟩) (by kernel_rfl) rfl (by kernel_rfl) (y_nil rfl rfl) ?_
        refine HD.wl_takeF (d := some 49) (v := (.pointer (some ⟨r, 0, none⟩))) (a' := ⟨List.toArray ((.pointer (some ⟨r, 0, none⟩))::(.agg k.L.toArray)::undef::(.pointer (some ⟨h0, 0, none⟩))::(.pointer (some ⟨(h0 + 1), 0, none⟩))::(.bool false)::(.int .i64 (at_ : Int))::(.pointer (some ⟨h7, 0, none⟩))::(.slice A8 n8 c8)::(.int .i64 (l.length : Int))::(.pointer (some ⟨r, 0, none⟩))::(.agg k.L.toArray)::(.int .i64 (at_ : Int))::(.int .i64 (at_ : Int))::(.bool false)::undef::(.pointer (some ⟨r, 0, none⟩))::(.pointer (some ⟨r, 0, none⟩))::(.pointer (some ⟨r, 0, none⟩))::(.slice (some ⟨ba, oa, none⟩) l.length c)::(.int .i64 (at_ : Int))::(.pointer (some ⟨ba, oa + at_ * 36, none⟩))::(.pointer (some ⟨ba, oa + at_ * 36 + 32, none⟩))::(.agg xa.2.L.toArray)::(.int .i64 (l.length : Int))::(.pointer (some ⟨r, 0, none⟩))::(.pointer (some ⟨r, 0, none⟩))::(.pointer (some ⟨r, 0, none⟩))::(.slice (some ⟨ba, oa, none⟩) l.length c)::(.int .i64 (l.length : Int))::(.bool false)::u31::u32::u33::u34::u35::u36::u37::u38::u39::u40::u41::u42::u43::u44::u45::(.pointer (some ⟨r, 0, none⟩))::(.slice A8 n8 c8)::(.pointer (some ⟨r, 0, none⟩))::(.pointer (some ⟨r, 0, none⟩))::undef::[]), []⟩) (by kernel_rfl) rfl (by kernel_rfl) (y_fri rfl rfl) ?_
        refine wl_storeS (a' := ⟨List.toArray ((.pointer (some ⟨r, 0, none⟩))::(.agg k.L.toArray)::undef::(.pointer (some ⟨h0, 0, none⟩))::(.pointer (some ⟨(h0 + 1), 0, none⟩))::(.bool false)::(.int .i64 (at_ : Int))::(.pointer (some ⟨h7, 0, none⟩))::(.slice A8 n8 c8)::(.int .i64 (l.length : Int))::(.pointer (some ⟨r, 0, none⟩))::(.agg k.L.toArray)::(.int .i64 (at_ : Int))::(.int .i64 (at_ : Int))::(.bool false)::undef::(.pointer (some ⟨r, 0, none⟩))::(.pointer (some ⟨r, 0, none⟩))::(.pointer (some ⟨r, 0, none⟩))::(.slice (some ⟨ba, oa, none⟩) l.length c)::(.int .i64 (at_ : Int))::(.pointer (some ⟨ba, oa + at_ * 36, none⟩))::(.pointer (some ⟨ba, oa + at_ * 36 + 32, none⟩))::(.agg xa.2.L.toArray)::(.int .i64 (l.length : Int))::(.pointer (some ⟨r, 0, none⟩))::(.pointer (some ⟨r, 0, none⟩))::(.pointer (some ⟨r, 0, none⟩))::(.slice (some ⟨ba, oa, none⟩) l.length c)::(.int .i64 (l.length : Int))::(.bool false)::u31::u32::u33::u34::u35::u36::u37::u38::u39::u40::u41::u42::u43::u44::u45::(.pointer (some ⟨r, 0, none⟩))::(.slice A8 n8 c8)::(.pointer (some ⟨r, 0, none⟩))::(.pointer (some ⟨r, 0, none⟩))::undef::[]), []⟩) rfl r A8 n8 c8 rfl rfl (by kernel_rfl) rfl rfl HJ.out.2.2.1 ?_
        have hsz := HA.out.2.2.2.2
        have h4z : w.heap.size ≤ w4.heap.size := Nat.le_trans HB3.out.2.size H4.out.1.size
        have mw : Mod no w wr := (HB3.out.2.and_then H4.out.1).and_then HJ.out.2.1
        have m5 : Mod (one r) w (wr.setCell ⟨r, 0, none⟩ (.slice A8 n8 c8)) := Mod.set (S := one r) (p := ⟨r, 0, none⟩) (mw.mono (fun _ _ c => c.elim)) (fun _ => rfl) _
        have m5' : Mod (one r) wr (wr.setCell ⟨r, 0, none⟩ (.slice A8 n8 c8)) := Mod.set (S := one r) (p := ⟨r, 0, none⟩) (Mod.refl _ wr) (fun _ => rfl) _
        have b5 : Blk (wr.setCell ⟨r, 0, none⟩ (.slice A8 n8 c8)) r 79 #[.slice A8 n8 c8] := HJ.out.2.2.1.put 0 _
        have k5 : KvRow (wr.setCell ⟨r, 0, none⟩ (.slice A8 n8 c8)) w40 (.slice A8 n8 c8) (less l k) := hrow.mod m5' (fun b e c => by have c : b = r := c; have := (hrow.own e).1; have := HW4.out; have := HH.out; omega)
        have hw40 : w.heap.size ≤ w40 := Nat.le_trans h4z HW4.out
        have hhr : r < h0 := by have := HH.out; omega
        have e5 : Blk (wr.setCell ⟨r, 0, none⟩ (.slice A8 n8 c8)) (h0 + 1) 56 e0.L.toArray := ((HB3.out.1.mod H4.out.1 (fun c => c)).mod HJ.out.2.1 (fun c => c)).mod m5' (fun c => by have c : h0 + 1 = r := c; omega)
        have x5 : Blk (wr.setCell ⟨r, 0, none⟩ (.slice A8 n8 c8)) h7 56 xa.2.L.toArray := (H4.out.2.mod HJ.out.2.1 (fun c => c)).mod m5' (fun c => by have c : h7 = r := c; subst c; have := HF.out.2.2.1; exact absurd (Blk.same (this.mod H4.out.1 (fun c => c)) H4.out.2).1 (by decide))
        have H5 := Lib.hid (And.intro b5 (And.intro (k5.base hw40) (And.intro m5 (And.intro e5 x5))))
        obtain ⟨w5, hw5⟩ : ∃ w5, w5 = wr.setCell ⟨r, 0, none⟩ (.slice A8 n8 c8) := ⟨_, rfl⟩
        rw [← hw5] at H5 ⊢
        clear m5 m5' b5 k5 e5 x5 hw5 hrow
        refine HD.wl_done ?_
        go_upto_region 12 with fail
        refine HD.wl_begin ?_
        refine HD.wl_takeF (d := some 50) (v := (.agg xa.2.L.toArray)) (a' := ⟨List.toArray ((.pointer (some ⟨r, 0, none⟩))::(.agg k.L.toArray)::undef::(.pointer (some ⟨h0, 0, none⟩))::(.pointer (some ⟨(h0 + 1), 0, none⟩))::(.bool false)::(.int .i64 (at_ : Int))::(.pointer (some ⟨h7, 0, none⟩))::(.slice A8 n8 c8)::(.int .i64 (l.length : Int))::(.pointer (some ⟨r, 0, none⟩))::(.agg k.L.toArray)::(.int .i64 (at_ : Int))::(.int .i64 (at_ : Int))::(.bool false)::undef::(.pointer (some ⟨r, 0, none⟩))::(.pointer (some ⟨r, 0, none⟩))::(.pointer (some ⟨r, 0, none⟩))::(.slice (some ⟨ba, oa, none⟩) l.length c)::(.int .i64 (at_ : Int))::(.pointer (some ⟨ba, oa + at_ * 36, none⟩))::(.pointer (some ⟨ba, oa + at_ * 36 + 32, none⟩))::(.agg xa.2.L.toArray)::(.int .i64 (l.length : Int))::(.pointer (some ⟨r, 0, none⟩))::(.pointer (some ⟨r, 0, none⟩))::(.pointer (some ⟨r, 0, none⟩))::(.slice (some ⟨ba, oa, none⟩) l.length c)::(.int .i64 (l.length : Int))::(.bool false)::u31::u32::u33::u34::u35::u36::u37::u38::u39::u40::u41::u42::u43::u44::u45::(.pointer (some ⟨r, 0, none⟩))::(.slice A8 n8 c8)::(.pointer (some ⟨r, 0, none⟩))::(.pointer (some ⟨r, 0, none⟩))::(.agg xa.2.L.toArray)::[]), []⟩) (by kernel_rfl) rfl (by kernel_rfl) (y_ent rfl rfl (blk_range H5.out.2.2.2.2)) ?_
        refine wl_entF (a' := ⟨List.toArray ((.pointer (some ⟨r, 0, none⟩))::(.agg k.L.toArray)::undef::(.pointer (some ⟨h0, 0, none⟩))::(.pointer (some ⟨(h0 + 1), 0, none⟩))::(.bool false)::(.int .i64 (at_ : Int))::(.pointer (some ⟨h7, 0, none⟩))::(.slice A8 n8 c8)::(.int .i64 (l.length : Int))::(.pointer (some ⟨r, 0, none⟩))::(.agg k.L.toArray)::(.int .i64 (at_ : Int))::(.int .i64 (at_ : Int))::(.bool false)::undef::(.pointer (some ⟨r, 0, none⟩))::(.pointer (some ⟨r, 0, none⟩))::(.pointer (some ⟨r, 0, none⟩))::(.slice (some ⟨ba, oa, none⟩) l.length c)::(.int .i64 (at_ : Int))::(.pointer (some ⟨ba, oa + at_ * 36, none⟩))::(.pointer (some ⟨ba, oa + at_ * 36 + 32, none⟩))::(.agg xa.2.L.toArray)::(.int .i64 (l.length : Int))::(.pointer (some ⟨r, 0, none⟩))::(.pointer (some ⟨r, 0, none⟩))::(.pointer (some ⟨r, 0, none⟩))::(.slice (some ⟨ba, oa, none⟩) l.length c)::(.int .i64 (l.length : Int))::(.bool false)::u31::u32::u33::u34::u35::u36::u37::u38::u39::u40::u41::u42::u43::u44::u45::(.pointer (some ⟨r, 0, none⟩))::(.slice A8 n8 c8)::(.pointer (some ⟨r, 0, none⟩))::(.pointer (some ⟨r, 0, none⟩))::(.agg xa.2.L.toArray)::[]), []⟩) rfl (h0 + 1) xa.2 (by kernel_rfl) rfl (by kernel_rfl) rfl rfl H5.out.2.2.2.1 ?_
        have m6 : Mod (one (h0 + 1)) w5 (World.setCells w5 (h0 + 1) 0 xa.2.L) := mod_setCells (S := one (h0 + 1)) (fun _ => rfl) _ _ _ (Mod.refl _ _)
        have H6 := Lib.hid (And.intro (H5.out.1.mod m6 (fun c => by have c : r = h0 + 1 := c; omega)) (And.intro (H5.out.2.1.mod m6 (fun b e c => by have c : b = h0 + 1 := c; obtain ⟨_, cur, hc⟩ := H5.out.2.1.own e; subst c; exact absurd (Blk.same hc H5.out.2.2.2.1).1 (by decide))) (And.intro (H5.out.2.2.1.trans m6 (fun x hx c => by have c : x = h0 + 1 := c; have := HH.out; omega)) (World.rangeAt_setCells_same w5 (h0 + 1) 0 xa.2.L (blk_there H5.out.2.2.2.1 0 4 (Nat.le_refl 4))))))
        clear m6
        refine HD.wl_takeF (d := some 5) (v := (.bool true)) (a' := ⟨List.toArray ((.pointer (some ⟨r, 0, none⟩))::(.agg k.L.toArray)::undef::(.pointer (some ⟨h0, 0, none⟩))::(.pointer (some ⟨(h0 + 1), 0, none⟩))::(.bool true)::(.int .i64 (at_ : Int))::(.pointer (some ⟨h7, 0, none⟩))::(.slice A8 n8 c8)::(.int .i64 (l.length : Int))::(.pointer (some ⟨r, 0, none⟩))::(.agg k.L.toArray)::(.int .i64 (at_ : Int))::(.int .i64 (at_ : Int))::(.bool false)::undef::(.pointer (some ⟨r, 0, none⟩))::(.pointer (some ⟨r, 0, none⟩))::(.pointer (some ⟨r, 0, none⟩))::(.slice (some ⟨ba, oa, none⟩) l.length c)::(.int .i64 (at_ : Int))::(.pointer (some ⟨ba, oa + at_ * 36, none⟩))::(.pointer (some ⟨ba, oa + at_ * 36 + 32, none⟩))::(.agg xa.2.L.toArray)::(.int .i64 (l.length : Int))::(.pointer (some ⟨r, 0, none⟩))::(.pointer (some ⟨r, 0, none⟩))::(.pointer (some ⟨r, 0, none⟩))::(.slice (some ⟨ba, oa, none⟩) l.length c)::(.int .i64 (l.length : Int))::(.bool false)::u31::u32::u33::u34::u35::u36::u37::u38::u39::u40::u41::u42::u43::u44::u45::(.pointer (some ⟨r, 0, none⟩))::(.slice A8 n8 c8)::(.pointer (some ⟨r, 0, none⟩))::(.pointer (some ⟨r, 0, none⟩))::(.agg xa.2.L.toArray)::[]), []⟩) (by kernel_rfl) rfl (by kernel_rfl) (y_assign rfl rfl) ?_
        refine HD.wl_done ?_
        go_wp2_with fail
        exact bodyPost_ret (v := .tuple #[.agg xa.2.L.toArray, .bool true]) (ret_two (p := 4) (u := 5) (ty := 56) rfl _ _ (h0 + 1) xa.2.L _ rfl rfl H6.out.2.2.2 Try.underlying56 rfl (ent_sizeG _)) rfl ⟨some xa.2, rfl, TB.Found.yes HA.out.2.2.1 (by have := List.mem_of_getElem? hxa; rw [← hxk]; exact this), fun c => (nomatch c), fun _ => ⟨_, H6.out.1, H6.out.2.1, H6.out.2.2.1⟩⟩
end Go.Proofs.Ytknbehjhaaidoaa.IX

