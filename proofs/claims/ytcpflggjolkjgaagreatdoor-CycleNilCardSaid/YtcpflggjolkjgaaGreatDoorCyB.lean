/- The law CycleNil: the walk (printed by cyclenil2.py). -/
import Derived.Test.YtcpflggjolkjgaaGreatDoorCyA
import Derived.Deep.MidRow
namespace Go.Proofs.YtcpflggjolkjgaaGreatDoor.MN
open Go.RowKit Mem HD
set_option linter.unusedVariables false
set_option linter.unusedSimpArgs false

theorem wpList_load_midG {ops : Array Oper} {rest : List Oper} {op : Oper} {a : Act} {w : World} {Q : Exit → Act → World → Prop} (hgd : Region.wanted op (yielded ops a.tmps) = true) (ty : TypeId) (x : Operand) (ho : op.op = .load ty x)
    (b o : Nat) (hx : a.eval x = .pointer (some ⟨b, o, none⟩)) (cs : List Value) (d : TypeDesc) (hc : w.rangeAt b o cs)
    (hu : Tryz.prog.underlying ty = some d) (hd : d.isRow = true) (hi : (Tryz.prog.info? ty).map (·.size) = some cs.length)
    (h : wpList Tryz.prog ops Q rest (a.put op.dst (.agg cs.toArray)) w) : wpList Tryz.prog ops Q (op :: rest) a w :=
  wpList_step fun K hK => by
    rw [if_pos hgd]
    exact wp_load_mid ty x ho b o hx cs d hc hu hd hi (hK _ _ h)
theorem key_infoG {k : List Value} (h : k.length = 32) : (Tryz.prog.info? 23).map (·.size) = some k.length := by rw [h]; kernel_rfl
theorem blk_range0 {w : World} {v : Nat} {t : TypeId} {m : List Value} (h : Blk w v t m.toArray) : w.rangeAt v 0 m := fun j u hu => by
  rw [h.cell, Nat.zero_add, List.getElem?_toArray]
  exact hu

set_option maxRecDepth 100000 in
set_option maxHeartbeats 1000000 in
theorem zero_c {w : World} {v : Value} {k : List Value} (hk : k.length = 32) (hz : Cz w v) : Calls Tryz.prog 9 #[v, .agg k.toArray] w fun e w' => e = .returned (.bool true) ∧ Mod no w w' := by
  have HK := Lib.hid hk
  have m0 : Mod no w (w.alloc (.cells k.toArray 23)) := (Mod.refl no w).alloc _
  have H0 := Lib.hid (And.intro (Blk.new w 23 k.toArray) (And.intro m0 (hz.mod_no m0)))
  clear hk m0 hz
  go_enter Tryz.func9, Tryz.ntmps9
  obtain ⟨kb, hkb⟩ : ∃ kb, kb = w.heap.size := ⟨_, rfl⟩
  rw [← hkb] at H0
  have HKB := Lib.hid hkb.symm
  go_wp2_with (first | (refine wpList_load_midG rfl 23 (.tmp 3) rfl w.heap.size 0 rfl k _ (by rw [HKB.out]; exact blk_range0 H0.out.1) Tryz.underlying23 rfl (key_infoG HK.out) ?_))
  rw [← hkb]
  clear hkb HKB
  generalize w.alloc (.cells k.toArray 23) = w0 at *
  refine (touch_c H0.out.2.2).mono ?_
  rintro e w1 ⟨rfl, m1⟩
  have H1 := Lib.hid (And.intro (H0.out.1.mod m1 (fun c => c)) (And.intro (H0.out.2.1.and_then m1) (H0.out.2.2.mod_no m1)))
  clear m1 H0
  go_wp2_with (first | (refine wpList_load_midG rfl 23 (.tmp 3) rfl kb 0 rfl k _ (blk_range0 H1.out.1) Tryz.underlying23 rfl (key_infoG HK.out) ?_))
  refine (born_c H1.out.2.2).mono ?_
  rintro e w2 ⟨rfl, m2⟩
  have H2 := Lib.hid (And.intro (H1.out.1.mod m2 (fun c => c)) (And.intro (H1.out.2.1.and_then m2) (H1.out.2.2.mod_no m2)))
  clear m2 H1
  go_wp2_with fail
  refine (act_c H2.out.2.2).mono ?_
  rintro e w3 ⟨rfl, m3⟩
  have H3 := Lib.hid (And.intro (H2.out.1.mod m3 (fun c => c)) (And.intro (H2.out.2.1.and_then m3) (H2.out.2.2.mod_no m3)))
  clear m3 H2
  go_wp2_with fail
  refine (help_c H3.out.2.2).mono ?_
  rintro e w4 ⟨rfl, m4⟩
  have H4 := Lib.hid (And.intro (H3.out.1.mod m4 (fun c => c)) (And.intro (H3.out.2.1.and_then m4) (H3.out.2.2.mod_no m4)))
  clear m4 H3
  go_wp2_with fail
  refine (begin_c H4.out.2.2).mono ?_
  rintro e w5 ⟨rfl, m5⟩
  have H5 := Lib.hid (And.intro (H4.out.1.mod m5 (fun c => c)) (And.intro (H4.out.2.1.and_then m5) (H4.out.2.2.mod_no m5)))
  clear m5 H4
  go_wp2_with fail
  refine (ready_c H5.out.2.2).mono ?_
  rintro e w6 ⟨rfl, m6⟩
  have H6 := Lib.hid (And.intro (H5.out.1.mod m6 (fun c => c)) (And.intro (H5.out.2.1.and_then m6) (H5.out.2.2.mod_no m6)))
  clear m6 H5
  go_wp2_with fail
  refine (phase_c H6.out.2.2).mono ?_
  rintro e w7 ⟨rfl, m7⟩
  have H7 := Lib.hid (And.intro (H6.out.1.mod m7 (fun c => c)) (And.intro (H6.out.2.1.and_then m7) (H6.out.2.2.mod_no m7)))
  clear m7 H6
  go_wp2_with fail
  refine (epoch_c H7.out.2.2).mono ?_
  rintro e w8 ⟨rfl, m8⟩
  have H8 := Lib.hid (And.intro (H7.out.1.mod m8 (fun c => c)) (And.intro (H7.out.2.1.and_then m8) (H7.out.2.2.mod_no m8)))
  clear m8 H7
  go_wp2_with fail
  refine (grey_c H8.out.2.2).mono ?_
  rintro e w9 ⟨rfl, m9⟩
  have H9 := Lib.hid (And.intro (H8.out.1.mod m9 (fun c => c)) (And.intro (H8.out.2.1.and_then m9) (H8.out.2.2.mod_no m9)))
  clear m9 H8
  go_wp2_with fail
  go_ret
  exact ⟨rfl, H9.out.2.1⟩

set_option maxRecDepth 100000 in
set_option maxHeartbeats 1000000 in
theorem cycle_law {w : World} {k : List Value} {ep : Int} (hk : k.length = 32) : Calls Tryz.prog 3 #[.agg k.toArray, .int .u32 ep] w fun e w' => e = .returned (.bool true) ∧ Mod no w w' := by
  have HK := Lib.hid hk
  have H0 := Lib.hid (And.intro (Blk.new w 23 k.toArray) ((Mod.refl no w).alloc (.cells k.toArray 23)))
  clear hk
  go_enter Tryz.func3, Tryz.ntmps3
  go_wp2_with fail
  obtain ⟨kb, hkb⟩ : ∃ kb, kb = w.heap.size := ⟨_, rfl⟩
  rw [← hkb] at H0 ⊢
  clear hkb
  generalize w.alloc (.cells k.toArray 23) = w0 at *
  refine anew_m.mono ?_
  rintro e w1 ⟨ar, rfl, m1⟩
  have H1 := Lib.hid (And.intro (H0.out.1.mod m1 (fun c => c)) (H0.out.2.and_then m1))
  clear m1 H0
  go_wp2_with fail
  refine inew_m.mono ?_
  rintro e w2 ⟨ix, rfl, m2⟩
  have H2 := Lib.hid (And.intro (H1.out.1.mod m2 (fun c => c)) (H1.out.2.and_then m2))
  clear m2 H1
  go_wp2_with fail
  refine rnew_m.mono ?_
  rintro e w3 ⟨rt, rfl, m3⟩
  have H3 := Lib.hid (And.intro (H2.out.1.mod m3 (fun c => c)) (H2.out.2.and_then m3))
  clear m3 H2
  go_wp2_with fail
  refine pnew_m.mono ?_
  rintro e w4 ⟨pn, rfl, m4⟩
  have H4 := Lib.hid (And.intro (H3.out.1.mod m4 (fun c => c)) (H3.out.2.and_then m4))
  clear m4 H3
  go_wp2_with fail
  refine cnew_has.mono ?_
  rintro e w5 ⟨cy, rfl, m5⟩
  have H5 := Lib.hid (And.intro (H4.out.1.mod m5 (fun c => c)) (H4.out.2.and_then m5))
  clear m5 H4
  go_wp2_with fail
  refine cnew_a.mono ?_
  rintro e w6 ⟨rfl, rfl⟩
  go_wp2_with fail
  refine cnew_x.mono ?_
  rintro e w6 ⟨rfl, rfl⟩
  go_wp2_with fail
  refine cnew_r.mono ?_
  rintro e w6 ⟨rfl, rfl⟩
  go_wp2_with fail
  refine cnew_p.mono ?_
  rintro e w6 ⟨rfl, rfl⟩
  go_wp2_with (first | (refine wpList_load_midG rfl 23 (.tmp 2) rfl kb 0 rfl k _ (blk_range0 H5.out.1) Tryz.underlying23 rfl (key_infoG HK.out) ?_))
  refine (zero_c HK.out (show Cz w5 (.pointer none) from .inl rfl)).mono ?_
  rintro e w6 ⟨rfl, m6⟩
  have H6 := Lib.hid (And.intro (H5.out.1.mod m6 (fun c => c)) (H5.out.2.and_then m6))
  clear m6 H5
  go_wp2_with (first | (refine wpList_load_midG rfl 23 (.tmp 2) rfl kb 0 rfl k _ (blk_range0 (H6.out.1.alloc _)) Tryz.underlying23 rfl (key_infoG HK.out) ?_))
  refine Calls.mono (zero_c HK.out (.inr ⟨_, rfl, _, Blk.new _ _ _, rfl⟩)) ?_
  rintro e w7 ⟨rfl, m7⟩
  have H7 := Lib.hid ((H6.out.2.alloc _).and_then m7)
  clear m7 H6
  go_wp2_with fail
  go_ret
  exact ⟨rfl, H7.out⟩

end Go.Proofs.YtcpflggjolkjgaaGreatDoor.MN
