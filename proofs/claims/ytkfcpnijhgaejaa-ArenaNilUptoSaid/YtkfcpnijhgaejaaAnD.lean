/- The law's asked, of a nil arena or a zero one: every kind of call (printed by arenanil4.py). -/
import Derived.Test.YtkfcpnijhgaejaaAnC
namespace Go.Proofs.Ytkfcpnijhgaejaa.AN
open Go.RowKit Mem
set_option linter.unusedVariables false
set_option linter.unusedSimpArgs false


set_option maxRecDepth 100000 in
set_option maxHeartbeats 1000000 in
theorem ask_write {w : World} {v : Value} {A : Option Addr} {l : List UInt8} {c : Nat} {p q n : Int} {lv : Bool} (hB : Base w v A l) (hl : l.length ≤ 1048576) :
    Calls Try.prog 4 #[v, .agg #[.int .i64 3, .int .i64 p, .int .i64 q, .int .i64 n, .slice A l.length c, .bool lv]] w fun r w' => r = .returned (.tuple #[.agg (ansE 1).toArray, .bool true]) ∧ Mod no w w' := by
  obtain ⟨m, hm⟩ : ∃ m : List Value, m = [.int .i64 3, .int .i64 p, .int .i64 q, .int .i64 n, .slice A l.length c, .bool lv] := ⟨_, rfl⟩
  rw [show (#[.int .i64 3, .int .i64 p, .int .i64 q, .int .i64 n, .slice A l.length c, .bool lv] : Array Value) = m.toArray by rw [hm]]
  have m1 : Mod no w (((w.alloc (.cells m.toArray 34)).alloc (.cells #[.int .i64 0, .int .i64 0, .int .i64 0, .string ⟨#[]⟩, .int .i64 0, .int .i64 0, .string ⟨#[]⟩] 37)).alloc (.cells #[.int .i64 0, .int .i64 0, .int .i64 0, .string ⟨#[]⟩, .int .i64 0, .int .i64 0, .string ⟨#[]⟩] 37)) := (((Mod.refl no w).alloc _).alloc _).alloc _
  have bx : Blk (((w.alloc (.cells m.toArray 34)).alloc (.cells #[.int .i64 0, .int .i64 0, .int .i64 0, .string ⟨#[]⟩, .int .i64 0, .int .i64 0, .string ⟨#[]⟩] 37)).alloc (.cells #[.int .i64 0, .int .i64 0, .int .i64 0, .string ⟨#[]⟩, .int .i64 0, .int .i64 0, .string ⟨#[]⟩] 37)) w.heap.size 34 m.toArray := ((Blk.new w 34 m.toArray).alloc _).alloc _
  have b4 : Blk (((w.alloc (.cells m.toArray 34)).alloc (.cells #[.int .i64 0, .int .i64 0, .int .i64 0, .string ⟨#[]⟩, .int .i64 0, .int .i64 0, .string ⟨#[]⟩] 37)).alloc (.cells #[.int .i64 0, .int .i64 0, .int .i64 0, .string ⟨#[]⟩, .int .i64 0, .int .i64 0, .string ⟨#[]⟩] 37)) (w.alloc (.cells m.toArray 34)).heap.size 37 (ansE 0).toArray := (show Blk ((w.alloc (.cells m.toArray 34)).alloc (.cells #[.int .i64 0, .int .i64 0, .int .i64 0, .string ⟨#[]⟩, .int .i64 0, .int .i64 0, .string ⟨#[]⟩] 37)) (w.alloc (.cells m.toArray 34)).heap.size 37 (ansE 0).toArray from Blk.new (w.alloc (.cells m.toArray 34)) 37 (ansE 0).toArray).alloc (.cells #[.int .i64 0, .int .i64 0, .int .i64 0, .string ⟨#[]⟩, .int .i64 0, .int .i64 0, .string ⟨#[]⟩] 37)
  rw [show (w.alloc (.cells m.toArray 34)).heap.size = w.heap.size + 1 from by simp] at b4
  have b6 : Blk (((w.alloc (.cells m.toArray 34)).alloc (.cells #[.int .i64 0, .int .i64 0, .int .i64 0, .string ⟨#[]⟩, .int .i64 0, .int .i64 0, .string ⟨#[]⟩] 37)).alloc (.cells #[.int .i64 0, .int .i64 0, .int .i64 0, .string ⟨#[]⟩, .int .i64 0, .int .i64 0, .string ⟨#[]⟩] 37)) ((w.alloc (.cells m.toArray 34)).alloc (.cells #[.int .i64 0, .int .i64 0, .int .i64 0, .string ⟨#[]⟩, .int .i64 0, .int .i64 0, .string ⟨#[]⟩] 37)).heap.size 37 (ansE 0).toArray := Blk.new ((w.alloc (.cells m.toArray 34)).alloc (.cells #[.int .i64 0, .int .i64 0, .int .i64 0, .string ⟨#[]⟩, .int .i64 0, .int .i64 0, .string ⟨#[]⟩] 37)) 37 (ansE 0).toArray
  rw [show ((w.alloc (.cells m.toArray 34)).alloc (.cells #[.int .i64 0, .int .i64 0, .int .i64 0, .string ⟨#[]⟩, .int .i64 0, .int .i64 0, .string ⟨#[]⟩] 37)).heap.size = w.heap.size + 2 from by simp] at b6
  have d4 : (((w.alloc (.cells m.toArray 34)).alloc (.cells #[.int .i64 0, .int .i64 0, .int .i64 0, .string ⟨#[]⟩, .int .i64 0, .int .i64 0, .string ⟨#[]⟩] 37)).alloc (.cells #[.int .i64 0, .int .i64 0, .int .i64 0, .string ⟨#[]⟩, .int .i64 0, .int .i64 0, .string ⟨#[]⟩] 37)).cell? ⟨w.heap.size, 4, none⟩ = some (.slice A l.length c) := by rw [bx.cell, hm]; rfl
  have H1 := Lib.hid (And.intro bx (And.intro b4 (And.intro b6 m1)))
  have HB := Lib.hid (And.intro hB (And.intro hl hm))
  clear m1 bx b4 b6 hB hl hm
  go_enter Try.func4, Try.ntmps4
  show Code.wp Try.prog (Code.seq (sL askC) (Code.seq (sL a1C) (Code.seq (sL a2C) (Code.seq (sL a3C) a4C)))) _ _ _
  refine wp_seq_k fun K0 hK0 => ?_
  have HK0 := Lib.hid hK0
  clear hK0
  conv => arg 2; whnf
  go_wp2_with fail
  refine HK0.out _ _ ?_
  clear HK0
  refine wp_seq_k fun K0 hK0 => ?_
  have HK0 := Lib.hid hK0
  clear hK0
  conv => arg 2; whnf
  go_wp2_with fail
  refine HK0.out _ _ ?_
  clear HK0
  refine wp_seq_k fun K0 hK0 => ?_
  have HK0 := Lib.hid hK0
  clear hK0
  conv => arg 2; whnf
  go_wp2_with fail
  generalize (((w.alloc (.cells m.toArray 34)).alloc (.cells #[.int .i64 0, .int .i64 0, .int .i64 0, .string ⟨#[]⟩, .int .i64 0, .int .i64 0, .string ⟨#[]⟩] 37)).alloc (.cells #[.int .i64 0, .int .i64 0, .int .i64 0, .string ⟨#[]⟩, .int .i64 0, .int .i64 0, .string ⟨#[]⟩] 37)) = w1 at *
  refine (copied_l (HB.out.1.d.mod_no H1.out.2.2.2).rds HB.out.2.1).mono ?_
  rintro r w2 ⟨g, rfl, hc2, hg2, m2⟩
  have hs1 := H1.out.2.2.1.lt
  have HA := Lib.hid (show Aa w w2 v A l g m (ansE 0) from ⟨H1.out.1.mod m2 (fun c => c), H1.out.2.1.mod m2 (fun c => c), H1.out.2.2.1.mod m2 (fun c => c), hc2, (HB.out.1.d.mod_no H1.out.2.2.2).mod_no m2, by omega, (HB.out.1.z.mod_no H1.out.2.2.2).mod_no m2, H1.out.2.2.2.and_then m2⟩)
  clear hc2 hg2 m2 d4 hs1 H1
  go_wp2_with fail
  refine HK0.out _ _ ?_
  clear HK0
  have c0 : w2.cell? ⟨w.heap.size, 0, none⟩ = some (.int .i64 3) := by rw [HA.out.x.cell, HB.out.2.2]; rfl
  have c1 : w2.cell? ⟨w.heap.size, 1, none⟩ = some (.int .i64 p) := by rw [HA.out.x.cell, HB.out.2.2]; rfl
  have c2 : w2.cell? ⟨w.heap.size, 2, none⟩ = some (.int .i64 q) := by rw [HA.out.x.cell, HB.out.2.2]; rfl
  have c3 : w2.cell? ⟨w.heap.size, 3, none⟩ = some (.int .i64 n) := by rw [HA.out.x.cell, HB.out.2.2]; rfl
  have c5 : w2.cell? ⟨w.heap.size, 5, none⟩ = some (.bool lv) := by rw [HA.out.x.cell, HB.out.2.2]; rfl
  have o0 : w2.cell? ⟨w.heap.size + 1 + 1, 0, none⟩ = some (.int .i64 0) := by rw [show w.heap.size + 1 + 1 = w.heap.size + 2 from rfl, HA.out.o6.cell]; rfl
  have f0 : w2.frozen? ⟨w.heap.size + 1 + 1, 0, none⟩ = false := HA.out.o6.free 0
  have o1 : w2.cell? ⟨w.heap.size + 1 + 1, 1, none⟩ = some (.int .i64 0) := by rw [show w.heap.size + 1 + 1 = w.heap.size + 2 from rfl, HA.out.o6.cell]; rfl
  have f1 : w2.frozen? ⟨w.heap.size + 1 + 1, 1, none⟩ = false := HA.out.o6.free 1
  have o2 : w2.cell? ⟨w.heap.size + 1 + 1, 2, none⟩ = some (.int .i64 0) := by rw [show w.heap.size + 1 + 1 = w.heap.size + 2 from rfl, HA.out.o6.cell]; rfl
  have f2 : w2.frozen? ⟨w.heap.size + 1 + 1, 2, none⟩ = false := HA.out.o6.free 2
  have o3 : w2.cell? ⟨w.heap.size + 1 + 1, 3, none⟩ = some (.string ⟨#[]⟩) := by rw [show w.heap.size + 1 + 1 = w.heap.size + 2 from rfl, HA.out.o6.cell]; rfl
  have f3 : w2.frozen? ⟨w.heap.size + 1 + 1, 3, none⟩ = false := HA.out.o6.free 3
  have o4 : w2.cell? ⟨w.heap.size + 1 + 1, 4, none⟩ = some (.int .i64 0) := by rw [show w.heap.size + 1 + 1 = w.heap.size + 2 from rfl, HA.out.o6.cell]; rfl
  have f4 : w2.frozen? ⟨w.heap.size + 1 + 1, 4, none⟩ = false := HA.out.o6.free 4
  have o5 : w2.cell? ⟨w.heap.size + 1 + 1, 5, none⟩ = some (.int .i64 0) := by rw [show w.heap.size + 1 + 1 = w.heap.size + 2 from rfl, HA.out.o6.cell]; rfl
  have f5 : w2.frozen? ⟨w.heap.size + 1 + 1, 5, none⟩ = false := HA.out.o6.free 5
  have o6 : w2.cell? ⟨w.heap.size + 1 + 1, 6, none⟩ = some (.string ⟨#[]⟩) := by rw [show w.heap.size + 1 + 1 = w.heap.size + 2 from rfl, HA.out.o6.cell]; rfl
  have f6 : w2.frozen? ⟨w.heap.size + 1 + 1, 6, none⟩ = false := HA.out.o6.free 6
  refine wp_seq_k fun K0 hK0 => ?_
  have HK0 := Lib.hid hK0
  clear hK0
  conv => arg 2; whnf
  go_wp2_with fail
  refine (write_n HA.out.z).mono ?_
  rintro r w3 ⟨rfl, m3⟩
  have HA3 := Lib.hid (HA.out.mod_no m3)
  clear c0 c1 c2 c3 c5 o0 f0 o1 f1 o2 f2 o3 f3 o4 f4 o5 f5 o6 f6
  clear m3
  have o0 : w3.cell? ⟨w.heap.size + 1 + 1, 0, none⟩ = some (.int .i64 0) := by rw [show w.heap.size + 1 + 1 = w.heap.size + 2 from rfl, HA3.out.o6.cell]; rfl
  have f0 : w3.frozen? ⟨w.heap.size + 1 + 1, 0, none⟩ = false := HA3.out.o6.free 0
  have o1 : w3.cell? ⟨w.heap.size + 1 + 1, 1, none⟩ = some (.int .i64 0) := by rw [show w.heap.size + 1 + 1 = w.heap.size + 2 from rfl, HA3.out.o6.cell]; rfl
  have f1 : w3.frozen? ⟨w.heap.size + 1 + 1, 1, none⟩ = false := HA3.out.o6.free 1
  have o2 : w3.cell? ⟨w.heap.size + 1 + 1, 2, none⟩ = some (.int .i64 0) := by rw [show w.heap.size + 1 + 1 = w.heap.size + 2 from rfl, HA3.out.o6.cell]; rfl
  have f2 : w3.frozen? ⟨w.heap.size + 1 + 1, 2, none⟩ = false := HA3.out.o6.free 2
  have o3 : w3.cell? ⟨w.heap.size + 1 + 1, 3, none⟩ = some (.string ⟨#[]⟩) := by rw [show w.heap.size + 1 + 1 = w.heap.size + 2 from rfl, HA3.out.o6.cell]; rfl
  have f3 : w3.frozen? ⟨w.heap.size + 1 + 1, 3, none⟩ = false := HA3.out.o6.free 3
  have o4 : w3.cell? ⟨w.heap.size + 1 + 1, 4, none⟩ = some (.int .i64 0) := by rw [show w.heap.size + 1 + 1 = w.heap.size + 2 from rfl, HA3.out.o6.cell]; rfl
  have f4 : w3.frozen? ⟨w.heap.size + 1 + 1, 4, none⟩ = false := HA3.out.o6.free 4
  have o5 : w3.cell? ⟨w.heap.size + 1 + 1, 5, none⟩ = some (.int .i64 0) := by rw [show w.heap.size + 1 + 1 = w.heap.size + 2 from rfl, HA3.out.o6.cell]; rfl
  have f5 : w3.frozen? ⟨w.heap.size + 1 + 1, 5, none⟩ = false := HA3.out.o6.free 5
  have o6 : w3.cell? ⟨w.heap.size + 1 + 1, 6, none⟩ = some (.string ⟨#[]⟩) := by rw [show w.heap.size + 1 + 1 = w.heap.size + 2 from rfl, HA3.out.o6.cell]; rfl
  have f6 : w3.frozen? ⟨w.heap.size + 1 + 1, 6, none⟩ = false := HA3.out.o6.free 6
  go_wp2_with fail
  refine HK0.out _ _ ?_
  clear HK0
  have HF := HB.out.2.2 ▸ (HA3.out.set HB.out.1 0 (.int .i64 1))
  exact atail (e := 1) HF HB.out.2.1 _ _ _ _ _ _ _ _ _ _ _ _ _ _ _ _ _ _ _ _ _ _ _ _ _ _ _ _ _ _ _ _ _ _ _ _ _ _ _ _ _ _ _ _ _ _ _ _ _ _ _ _ _ _ _ _ _ _ _ _ _ _ _ _ _ _ _ _ _ _ _ _ _ _ _ _ _ _ _ _ _ _ _ _ _ _ _ _ _ _ _ _ _ _ _ _ _ _ _ _ _ _ _ _ _ _ _ _ _ _ _ _ _ _ _ _ _ _ _ _ _ _ _ _ _ _ _ _ _ _ _ _ _ _ _ _ _ _ _ _ _ _ _ _ _ _ _ _ _ _ _ _ _ _ _ _ _ _ _ _ _ _ _ _ _ _ _ _ _ _ _ _ _ _ _ _ _ _ _ _ _ _ _ _ _ _ _ _ _ _ _ _ _ _ _ _ _ _ _ _ _ _ _

set_option maxRecDepth 100000 in
set_option maxHeartbeats 1000000 in
theorem ask_settle {w : World} {v : Value} {A : Option Addr} {l : List UInt8} {c : Nat} {p q n : Int} {lv : Bool} (hB : Base w v A l) (hl : l.length ≤ 1048576) :
    Calls Try.prog 4 #[v, .agg #[.int .i64 4, .int .i64 p, .int .i64 q, .int .i64 n, .slice A l.length c, .bool lv]] w fun r w' => r = .returned (.tuple #[.agg (ansE 1).toArray, .bool true]) ∧ Mod no w w' := by
  obtain ⟨m, hm⟩ : ∃ m : List Value, m = [.int .i64 4, .int .i64 p, .int .i64 q, .int .i64 n, .slice A l.length c, .bool lv] := ⟨_, rfl⟩
  rw [show (#[.int .i64 4, .int .i64 p, .int .i64 q, .int .i64 n, .slice A l.length c, .bool lv] : Array Value) = m.toArray by rw [hm]]
  have m1 : Mod no w (((w.alloc (.cells m.toArray 34)).alloc (.cells #[.int .i64 0, .int .i64 0, .int .i64 0, .string ⟨#[]⟩, .int .i64 0, .int .i64 0, .string ⟨#[]⟩] 37)).alloc (.cells #[.int .i64 0, .int .i64 0, .int .i64 0, .string ⟨#[]⟩, .int .i64 0, .int .i64 0, .string ⟨#[]⟩] 37)) := (((Mod.refl no w).alloc _).alloc _).alloc _
  have bx : Blk (((w.alloc (.cells m.toArray 34)).alloc (.cells #[.int .i64 0, .int .i64 0, .int .i64 0, .string ⟨#[]⟩, .int .i64 0, .int .i64 0, .string ⟨#[]⟩] 37)).alloc (.cells #[.int .i64 0, .int .i64 0, .int .i64 0, .string ⟨#[]⟩, .int .i64 0, .int .i64 0, .string ⟨#[]⟩] 37)) w.heap.size 34 m.toArray := ((Blk.new w 34 m.toArray).alloc _).alloc _
  have b4 : Blk (((w.alloc (.cells m.toArray 34)).alloc (.cells #[.int .i64 0, .int .i64 0, .int .i64 0, .string ⟨#[]⟩, .int .i64 0, .int .i64 0, .string ⟨#[]⟩] 37)).alloc (.cells #[.int .i64 0, .int .i64 0, .int .i64 0, .string ⟨#[]⟩, .int .i64 0, .int .i64 0, .string ⟨#[]⟩] 37)) (w.alloc (.cells m.toArray 34)).heap.size 37 (ansE 0).toArray := (show Blk ((w.alloc (.cells m.toArray 34)).alloc (.cells #[.int .i64 0, .int .i64 0, .int .i64 0, .string ⟨#[]⟩, .int .i64 0, .int .i64 0, .string ⟨#[]⟩] 37)) (w.alloc (.cells m.toArray 34)).heap.size 37 (ansE 0).toArray from Blk.new (w.alloc (.cells m.toArray 34)) 37 (ansE 0).toArray).alloc (.cells #[.int .i64 0, .int .i64 0, .int .i64 0, .string ⟨#[]⟩, .int .i64 0, .int .i64 0, .string ⟨#[]⟩] 37)
  rw [show (w.alloc (.cells m.toArray 34)).heap.size = w.heap.size + 1 from by simp] at b4
  have b6 : Blk (((w.alloc (.cells m.toArray 34)).alloc (.cells #[.int .i64 0, .int .i64 0, .int .i64 0, .string ⟨#[]⟩, .int .i64 0, .int .i64 0, .string ⟨#[]⟩] 37)).alloc (.cells #[.int .i64 0, .int .i64 0, .int .i64 0, .string ⟨#[]⟩, .int .i64 0, .int .i64 0, .string ⟨#[]⟩] 37)) ((w.alloc (.cells m.toArray 34)).alloc (.cells #[.int .i64 0, .int .i64 0, .int .i64 0, .string ⟨#[]⟩, .int .i64 0, .int .i64 0, .string ⟨#[]⟩] 37)).heap.size 37 (ansE 0).toArray := Blk.new ((w.alloc (.cells m.toArray 34)).alloc (.cells #[.int .i64 0, .int .i64 0, .int .i64 0, .string ⟨#[]⟩, .int .i64 0, .int .i64 0, .string ⟨#[]⟩] 37)) 37 (ansE 0).toArray
  rw [show ((w.alloc (.cells m.toArray 34)).alloc (.cells #[.int .i64 0, .int .i64 0, .int .i64 0, .string ⟨#[]⟩, .int .i64 0, .int .i64 0, .string ⟨#[]⟩] 37)).heap.size = w.heap.size + 2 from by simp] at b6
  have d4 : (((w.alloc (.cells m.toArray 34)).alloc (.cells #[.int .i64 0, .int .i64 0, .int .i64 0, .string ⟨#[]⟩, .int .i64 0, .int .i64 0, .string ⟨#[]⟩] 37)).alloc (.cells #[.int .i64 0, .int .i64 0, .int .i64 0, .string ⟨#[]⟩, .int .i64 0, .int .i64 0, .string ⟨#[]⟩] 37)).cell? ⟨w.heap.size, 4, none⟩ = some (.slice A l.length c) := by rw [bx.cell, hm]; rfl
  have H1 := Lib.hid (And.intro bx (And.intro b4 (And.intro b6 m1)))
  have HB := Lib.hid (And.intro hB (And.intro hl hm))
  clear m1 bx b4 b6 hB hl hm
  go_enter Try.func4, Try.ntmps4
  show Code.wp Try.prog (Code.seq (sL askC) (Code.seq (sL a1C) (Code.seq (sL a2C) (Code.seq (sL a3C) a4C)))) _ _ _
  refine wp_seq_k fun K0 hK0 => ?_
  have HK0 := Lib.hid hK0
  clear hK0
  conv => arg 2; whnf
  go_wp2_with fail
  refine HK0.out _ _ ?_
  clear HK0
  refine wp_seq_k fun K0 hK0 => ?_
  have HK0 := Lib.hid hK0
  clear hK0
  conv => arg 2; whnf
  go_wp2_with fail
  refine HK0.out _ _ ?_
  clear HK0
  refine wp_seq_k fun K0 hK0 => ?_
  have HK0 := Lib.hid hK0
  clear hK0
  conv => arg 2; whnf
  go_wp2_with fail
  generalize (((w.alloc (.cells m.toArray 34)).alloc (.cells #[.int .i64 0, .int .i64 0, .int .i64 0, .string ⟨#[]⟩, .int .i64 0, .int .i64 0, .string ⟨#[]⟩] 37)).alloc (.cells #[.int .i64 0, .int .i64 0, .int .i64 0, .string ⟨#[]⟩, .int .i64 0, .int .i64 0, .string ⟨#[]⟩] 37)) = w1 at *
  refine (copied_l (HB.out.1.d.mod_no H1.out.2.2.2).rds HB.out.2.1).mono ?_
  rintro r w2 ⟨g, rfl, hc2, hg2, m2⟩
  have hs1 := H1.out.2.2.1.lt
  have HA := Lib.hid (show Aa w w2 v A l g m (ansE 0) from ⟨H1.out.1.mod m2 (fun c => c), H1.out.2.1.mod m2 (fun c => c), H1.out.2.2.1.mod m2 (fun c => c), hc2, (HB.out.1.d.mod_no H1.out.2.2.2).mod_no m2, by omega, (HB.out.1.z.mod_no H1.out.2.2.2).mod_no m2, H1.out.2.2.2.and_then m2⟩)
  clear hc2 hg2 m2 d4 hs1 H1
  go_wp2_with fail
  refine HK0.out _ _ ?_
  clear HK0
  have c0 : w2.cell? ⟨w.heap.size, 0, none⟩ = some (.int .i64 4) := by rw [HA.out.x.cell, HB.out.2.2]; rfl
  have c1 : w2.cell? ⟨w.heap.size, 1, none⟩ = some (.int .i64 p) := by rw [HA.out.x.cell, HB.out.2.2]; rfl
  have c2 : w2.cell? ⟨w.heap.size, 2, none⟩ = some (.int .i64 q) := by rw [HA.out.x.cell, HB.out.2.2]; rfl
  have c3 : w2.cell? ⟨w.heap.size, 3, none⟩ = some (.int .i64 n) := by rw [HA.out.x.cell, HB.out.2.2]; rfl
  have c5 : w2.cell? ⟨w.heap.size, 5, none⟩ = some (.bool lv) := by rw [HA.out.x.cell, HB.out.2.2]; rfl
  have o0 : w2.cell? ⟨w.heap.size + 1 + 1, 0, none⟩ = some (.int .i64 0) := by rw [show w.heap.size + 1 + 1 = w.heap.size + 2 from rfl, HA.out.o6.cell]; rfl
  have f0 : w2.frozen? ⟨w.heap.size + 1 + 1, 0, none⟩ = false := HA.out.o6.free 0
  have o1 : w2.cell? ⟨w.heap.size + 1 + 1, 1, none⟩ = some (.int .i64 0) := by rw [show w.heap.size + 1 + 1 = w.heap.size + 2 from rfl, HA.out.o6.cell]; rfl
  have f1 : w2.frozen? ⟨w.heap.size + 1 + 1, 1, none⟩ = false := HA.out.o6.free 1
  have o2 : w2.cell? ⟨w.heap.size + 1 + 1, 2, none⟩ = some (.int .i64 0) := by rw [show w.heap.size + 1 + 1 = w.heap.size + 2 from rfl, HA.out.o6.cell]; rfl
  have f2 : w2.frozen? ⟨w.heap.size + 1 + 1, 2, none⟩ = false := HA.out.o6.free 2
  have o3 : w2.cell? ⟨w.heap.size + 1 + 1, 3, none⟩ = some (.string ⟨#[]⟩) := by rw [show w.heap.size + 1 + 1 = w.heap.size + 2 from rfl, HA.out.o6.cell]; rfl
  have f3 : w2.frozen? ⟨w.heap.size + 1 + 1, 3, none⟩ = false := HA.out.o6.free 3
  have o4 : w2.cell? ⟨w.heap.size + 1 + 1, 4, none⟩ = some (.int .i64 0) := by rw [show w.heap.size + 1 + 1 = w.heap.size + 2 from rfl, HA.out.o6.cell]; rfl
  have f4 : w2.frozen? ⟨w.heap.size + 1 + 1, 4, none⟩ = false := HA.out.o6.free 4
  have o5 : w2.cell? ⟨w.heap.size + 1 + 1, 5, none⟩ = some (.int .i64 0) := by rw [show w.heap.size + 1 + 1 = w.heap.size + 2 from rfl, HA.out.o6.cell]; rfl
  have f5 : w2.frozen? ⟨w.heap.size + 1 + 1, 5, none⟩ = false := HA.out.o6.free 5
  have o6 : w2.cell? ⟨w.heap.size + 1 + 1, 6, none⟩ = some (.string ⟨#[]⟩) := by rw [show w.heap.size + 1 + 1 = w.heap.size + 2 from rfl, HA.out.o6.cell]; rfl
  have f6 : w2.frozen? ⟨w.heap.size + 1 + 1, 6, none⟩ = false := HA.out.o6.free 6
  refine wp_seq_k fun K0 hK0 => ?_
  have HK0 := Lib.hid hK0
  clear hK0
  conv => arg 2; whnf
  go_wp2_with fail
  refine (settle_n HA.out.z).mono ?_
  rintro r w3 ⟨rfl, m3⟩
  have HA3 := Lib.hid (HA.out.mod_no m3)
  clear c0 c1 c2 c3 c5 o0 f0 o1 f1 o2 f2 o3 f3 o4 f4 o5 f5 o6 f6
  clear m3
  have o0 : w3.cell? ⟨w.heap.size + 1 + 1, 0, none⟩ = some (.int .i64 0) := by rw [show w.heap.size + 1 + 1 = w.heap.size + 2 from rfl, HA3.out.o6.cell]; rfl
  have f0 : w3.frozen? ⟨w.heap.size + 1 + 1, 0, none⟩ = false := HA3.out.o6.free 0
  have o1 : w3.cell? ⟨w.heap.size + 1 + 1, 1, none⟩ = some (.int .i64 0) := by rw [show w.heap.size + 1 + 1 = w.heap.size + 2 from rfl, HA3.out.o6.cell]; rfl
  have f1 : w3.frozen? ⟨w.heap.size + 1 + 1, 1, none⟩ = false := HA3.out.o6.free 1
  have o2 : w3.cell? ⟨w.heap.size + 1 + 1, 2, none⟩ = some (.int .i64 0) := by rw [show w.heap.size + 1 + 1 = w.heap.size + 2 from rfl, HA3.out.o6.cell]; rfl
  have f2 : w3.frozen? ⟨w.heap.size + 1 + 1, 2, none⟩ = false := HA3.out.o6.free 2
  have o3 : w3.cell? ⟨w.heap.size + 1 + 1, 3, none⟩ = some (.string ⟨#[]⟩) := by rw [show w.heap.size + 1 + 1 = w.heap.size + 2 from rfl, HA3.out.o6.cell]; rfl
  have f3 : w3.frozen? ⟨w.heap.size + 1 + 1, 3, none⟩ = false := HA3.out.o6.free 3
  have o4 : w3.cell? ⟨w.heap.size + 1 + 1, 4, none⟩ = some (.int .i64 0) := by rw [show w.heap.size + 1 + 1 = w.heap.size + 2 from rfl, HA3.out.o6.cell]; rfl
  have f4 : w3.frozen? ⟨w.heap.size + 1 + 1, 4, none⟩ = false := HA3.out.o6.free 4
  have o5 : w3.cell? ⟨w.heap.size + 1 + 1, 5, none⟩ = some (.int .i64 0) := by rw [show w.heap.size + 1 + 1 = w.heap.size + 2 from rfl, HA3.out.o6.cell]; rfl
  have f5 : w3.frozen? ⟨w.heap.size + 1 + 1, 5, none⟩ = false := HA3.out.o6.free 5
  have o6 : w3.cell? ⟨w.heap.size + 1 + 1, 6, none⟩ = some (.string ⟨#[]⟩) := by rw [show w.heap.size + 1 + 1 = w.heap.size + 2 from rfl, HA3.out.o6.cell]; rfl
  have f6 : w3.frozen? ⟨w.heap.size + 1 + 1, 6, none⟩ = false := HA3.out.o6.free 6
  go_wp2_with fail
  refine HK0.out _ _ ?_
  clear HK0
  have HF := HB.out.2.2 ▸ (HA3.out.set HB.out.1 0 (.int .i64 1))
  exact atail (e := 1) HF HB.out.2.1 _ _ _ _ _ _ _ _ _ _ _ _ _ _ _ _ _ _ _ _ _ _ _ _ _ _ _ _ _ _ _ _ _ _ _ _ _ _ _ _ _ _ _ _ _ _ _ _ _ _ _ _ _ _ _ _ _ _ _ _ _ _ _ _ _ _ _ _ _ _ _ _ _ _ _ _ _ _ _ _ _ _ _ _ _ _ _ _ _ _ _ _ _ _ _ _ _ _ _ _ _ _ _ _ _ _ _ _ _ _ _ _ _ _ _ _ _ _ _ _ _ _ _ _ _ _ _ _ _ _ _ _ _ _ _ _ _ _ _ _ _ _ _ _ _ _ _ _ _ _ _ _ _ _ _ _ _ _ _ _ _ _ _ _ _ _ _ _ _ _ _ _ _ _ _ _ _ _ _ _ _ _ _ _ _ _ _ _ _ _ _ _ _ _ _ _ _ _ _ _ _ _ _

set_option maxRecDepth 100000 in
set_option maxHeartbeats 1000000 in
theorem ask_dead {w : World} {v : Value} {A : Option Addr} {l : List UInt8} {c : Nat} {p q n : Int} {lv : Bool} (hB : Base w v A l) (hl : l.length ≤ 1048576) :
    Calls Try.prog 4 #[v, .agg #[.int .i64 5, .int .i64 p, .int .i64 q, .int .i64 n, .slice A l.length c, .bool lv]] w fun r w' => r = .returned (.tuple #[.agg (ansE 1).toArray, .bool true]) ∧ Mod no w w' := by
  obtain ⟨m, hm⟩ : ∃ m : List Value, m = [.int .i64 5, .int .i64 p, .int .i64 q, .int .i64 n, .slice A l.length c, .bool lv] := ⟨_, rfl⟩
  rw [show (#[.int .i64 5, .int .i64 p, .int .i64 q, .int .i64 n, .slice A l.length c, .bool lv] : Array Value) = m.toArray by rw [hm]]
  have m1 : Mod no w (((w.alloc (.cells m.toArray 34)).alloc (.cells #[.int .i64 0, .int .i64 0, .int .i64 0, .string ⟨#[]⟩, .int .i64 0, .int .i64 0, .string ⟨#[]⟩] 37)).alloc (.cells #[.int .i64 0, .int .i64 0, .int .i64 0, .string ⟨#[]⟩, .int .i64 0, .int .i64 0, .string ⟨#[]⟩] 37)) := (((Mod.refl no w).alloc _).alloc _).alloc _
  have bx : Blk (((w.alloc (.cells m.toArray 34)).alloc (.cells #[.int .i64 0, .int .i64 0, .int .i64 0, .string ⟨#[]⟩, .int .i64 0, .int .i64 0, .string ⟨#[]⟩] 37)).alloc (.cells #[.int .i64 0, .int .i64 0, .int .i64 0, .string ⟨#[]⟩, .int .i64 0, .int .i64 0, .string ⟨#[]⟩] 37)) w.heap.size 34 m.toArray := ((Blk.new w 34 m.toArray).alloc _).alloc _
  have b4 : Blk (((w.alloc (.cells m.toArray 34)).alloc (.cells #[.int .i64 0, .int .i64 0, .int .i64 0, .string ⟨#[]⟩, .int .i64 0, .int .i64 0, .string ⟨#[]⟩] 37)).alloc (.cells #[.int .i64 0, .int .i64 0, .int .i64 0, .string ⟨#[]⟩, .int .i64 0, .int .i64 0, .string ⟨#[]⟩] 37)) (w.alloc (.cells m.toArray 34)).heap.size 37 (ansE 0).toArray := (show Blk ((w.alloc (.cells m.toArray 34)).alloc (.cells #[.int .i64 0, .int .i64 0, .int .i64 0, .string ⟨#[]⟩, .int .i64 0, .int .i64 0, .string ⟨#[]⟩] 37)) (w.alloc (.cells m.toArray 34)).heap.size 37 (ansE 0).toArray from Blk.new (w.alloc (.cells m.toArray 34)) 37 (ansE 0).toArray).alloc (.cells #[.int .i64 0, .int .i64 0, .int .i64 0, .string ⟨#[]⟩, .int .i64 0, .int .i64 0, .string ⟨#[]⟩] 37)
  rw [show (w.alloc (.cells m.toArray 34)).heap.size = w.heap.size + 1 from by simp] at b4
  have b6 : Blk (((w.alloc (.cells m.toArray 34)).alloc (.cells #[.int .i64 0, .int .i64 0, .int .i64 0, .string ⟨#[]⟩, .int .i64 0, .int .i64 0, .string ⟨#[]⟩] 37)).alloc (.cells #[.int .i64 0, .int .i64 0, .int .i64 0, .string ⟨#[]⟩, .int .i64 0, .int .i64 0, .string ⟨#[]⟩] 37)) ((w.alloc (.cells m.toArray 34)).alloc (.cells #[.int .i64 0, .int .i64 0, .int .i64 0, .string ⟨#[]⟩, .int .i64 0, .int .i64 0, .string ⟨#[]⟩] 37)).heap.size 37 (ansE 0).toArray := Blk.new ((w.alloc (.cells m.toArray 34)).alloc (.cells #[.int .i64 0, .int .i64 0, .int .i64 0, .string ⟨#[]⟩, .int .i64 0, .int .i64 0, .string ⟨#[]⟩] 37)) 37 (ansE 0).toArray
  rw [show ((w.alloc (.cells m.toArray 34)).alloc (.cells #[.int .i64 0, .int .i64 0, .int .i64 0, .string ⟨#[]⟩, .int .i64 0, .int .i64 0, .string ⟨#[]⟩] 37)).heap.size = w.heap.size + 2 from by simp] at b6
  have d4 : (((w.alloc (.cells m.toArray 34)).alloc (.cells #[.int .i64 0, .int .i64 0, .int .i64 0, .string ⟨#[]⟩, .int .i64 0, .int .i64 0, .string ⟨#[]⟩] 37)).alloc (.cells #[.int .i64 0, .int .i64 0, .int .i64 0, .string ⟨#[]⟩, .int .i64 0, .int .i64 0, .string ⟨#[]⟩] 37)).cell? ⟨w.heap.size, 4, none⟩ = some (.slice A l.length c) := by rw [bx.cell, hm]; rfl
  have H1 := Lib.hid (And.intro bx (And.intro b4 (And.intro b6 m1)))
  have HB := Lib.hid (And.intro hB (And.intro hl hm))
  clear m1 bx b4 b6 hB hl hm
  go_enter Try.func4, Try.ntmps4
  show Code.wp Try.prog (Code.seq (sL askC) (Code.seq (sL a1C) (Code.seq (sL a2C) (Code.seq (sL a3C) a4C)))) _ _ _
  refine wp_seq_k fun K0 hK0 => ?_
  have HK0 := Lib.hid hK0
  clear hK0
  conv => arg 2; whnf
  go_wp2_with fail
  refine HK0.out _ _ ?_
  clear HK0
  refine wp_seq_k fun K0 hK0 => ?_
  have HK0 := Lib.hid hK0
  clear hK0
  conv => arg 2; whnf
  go_wp2_with fail
  refine HK0.out _ _ ?_
  clear HK0
  refine wp_seq_k fun K0 hK0 => ?_
  have HK0 := Lib.hid hK0
  clear hK0
  conv => arg 2; whnf
  go_wp2_with fail
  generalize (((w.alloc (.cells m.toArray 34)).alloc (.cells #[.int .i64 0, .int .i64 0, .int .i64 0, .string ⟨#[]⟩, .int .i64 0, .int .i64 0, .string ⟨#[]⟩] 37)).alloc (.cells #[.int .i64 0, .int .i64 0, .int .i64 0, .string ⟨#[]⟩, .int .i64 0, .int .i64 0, .string ⟨#[]⟩] 37)) = w1 at *
  refine (copied_l (HB.out.1.d.mod_no H1.out.2.2.2).rds HB.out.2.1).mono ?_
  rintro r w2 ⟨g, rfl, hc2, hg2, m2⟩
  have hs1 := H1.out.2.2.1.lt
  have HA := Lib.hid (show Aa w w2 v A l g m (ansE 0) from ⟨H1.out.1.mod m2 (fun c => c), H1.out.2.1.mod m2 (fun c => c), H1.out.2.2.1.mod m2 (fun c => c), hc2, (HB.out.1.d.mod_no H1.out.2.2.2).mod_no m2, by omega, (HB.out.1.z.mod_no H1.out.2.2.2).mod_no m2, H1.out.2.2.2.and_then m2⟩)
  clear hc2 hg2 m2 d4 hs1 H1
  go_wp2_with fail
  refine HK0.out _ _ ?_
  clear HK0
  have c0 : w2.cell? ⟨w.heap.size, 0, none⟩ = some (.int .i64 5) := by rw [HA.out.x.cell, HB.out.2.2]; rfl
  have c1 : w2.cell? ⟨w.heap.size, 1, none⟩ = some (.int .i64 p) := by rw [HA.out.x.cell, HB.out.2.2]; rfl
  have c2 : w2.cell? ⟨w.heap.size, 2, none⟩ = some (.int .i64 q) := by rw [HA.out.x.cell, HB.out.2.2]; rfl
  have c3 : w2.cell? ⟨w.heap.size, 3, none⟩ = some (.int .i64 n) := by rw [HA.out.x.cell, HB.out.2.2]; rfl
  have c5 : w2.cell? ⟨w.heap.size, 5, none⟩ = some (.bool lv) := by rw [HA.out.x.cell, HB.out.2.2]; rfl
  have o0 : w2.cell? ⟨w.heap.size + 1 + 1, 0, none⟩ = some (.int .i64 0) := by rw [show w.heap.size + 1 + 1 = w.heap.size + 2 from rfl, HA.out.o6.cell]; rfl
  have f0 : w2.frozen? ⟨w.heap.size + 1 + 1, 0, none⟩ = false := HA.out.o6.free 0
  have o1 : w2.cell? ⟨w.heap.size + 1 + 1, 1, none⟩ = some (.int .i64 0) := by rw [show w.heap.size + 1 + 1 = w.heap.size + 2 from rfl, HA.out.o6.cell]; rfl
  have f1 : w2.frozen? ⟨w.heap.size + 1 + 1, 1, none⟩ = false := HA.out.o6.free 1
  have o2 : w2.cell? ⟨w.heap.size + 1 + 1, 2, none⟩ = some (.int .i64 0) := by rw [show w.heap.size + 1 + 1 = w.heap.size + 2 from rfl, HA.out.o6.cell]; rfl
  have f2 : w2.frozen? ⟨w.heap.size + 1 + 1, 2, none⟩ = false := HA.out.o6.free 2
  have o3 : w2.cell? ⟨w.heap.size + 1 + 1, 3, none⟩ = some (.string ⟨#[]⟩) := by rw [show w.heap.size + 1 + 1 = w.heap.size + 2 from rfl, HA.out.o6.cell]; rfl
  have f3 : w2.frozen? ⟨w.heap.size + 1 + 1, 3, none⟩ = false := HA.out.o6.free 3
  have o4 : w2.cell? ⟨w.heap.size + 1 + 1, 4, none⟩ = some (.int .i64 0) := by rw [show w.heap.size + 1 + 1 = w.heap.size + 2 from rfl, HA.out.o6.cell]; rfl
  have f4 : w2.frozen? ⟨w.heap.size + 1 + 1, 4, none⟩ = false := HA.out.o6.free 4
  have o5 : w2.cell? ⟨w.heap.size + 1 + 1, 5, none⟩ = some (.int .i64 0) := by rw [show w.heap.size + 1 + 1 = w.heap.size + 2 from rfl, HA.out.o6.cell]; rfl
  have f5 : w2.frozen? ⟨w.heap.size + 1 + 1, 5, none⟩ = false := HA.out.o6.free 5
  have o6 : w2.cell? ⟨w.heap.size + 1 + 1, 6, none⟩ = some (.string ⟨#[]⟩) := by rw [show w.heap.size + 1 + 1 = w.heap.size + 2 from rfl, HA.out.o6.cell]; rfl
  have f6 : w2.frozen? ⟨w.heap.size + 1 + 1, 6, none⟩ = false := HA.out.o6.free 6
  refine wp_seq_k fun K0 hK0 => ?_
  have HK0 := Lib.hid hK0
  clear hK0
  conv => arg 2; whnf
  go_wp2_with fail
  refine (dead_n HA.out.z).mono ?_
  rintro r w3 ⟨rfl, m3⟩
  have HA3 := Lib.hid (HA.out.mod_no m3)
  clear c0 c1 c2 c3 c5 o0 f0 o1 f1 o2 f2 o3 f3 o4 f4 o5 f5 o6 f6
  clear m3
  have o0 : w3.cell? ⟨w.heap.size + 1 + 1, 0, none⟩ = some (.int .i64 0) := by rw [show w.heap.size + 1 + 1 = w.heap.size + 2 from rfl, HA3.out.o6.cell]; rfl
  have f0 : w3.frozen? ⟨w.heap.size + 1 + 1, 0, none⟩ = false := HA3.out.o6.free 0
  have o1 : w3.cell? ⟨w.heap.size + 1 + 1, 1, none⟩ = some (.int .i64 0) := by rw [show w.heap.size + 1 + 1 = w.heap.size + 2 from rfl, HA3.out.o6.cell]; rfl
  have f1 : w3.frozen? ⟨w.heap.size + 1 + 1, 1, none⟩ = false := HA3.out.o6.free 1
  have o2 : w3.cell? ⟨w.heap.size + 1 + 1, 2, none⟩ = some (.int .i64 0) := by rw [show w.heap.size + 1 + 1 = w.heap.size + 2 from rfl, HA3.out.o6.cell]; rfl
  have f2 : w3.frozen? ⟨w.heap.size + 1 + 1, 2, none⟩ = false := HA3.out.o6.free 2
  have o3 : w3.cell? ⟨w.heap.size + 1 + 1, 3, none⟩ = some (.string ⟨#[]⟩) := by rw [show w.heap.size + 1 + 1 = w.heap.size + 2 from rfl, HA3.out.o6.cell]; rfl
  have f3 : w3.frozen? ⟨w.heap.size + 1 + 1, 3, none⟩ = false := HA3.out.o6.free 3
  have o4 : w3.cell? ⟨w.heap.size + 1 + 1, 4, none⟩ = some (.int .i64 0) := by rw [show w.heap.size + 1 + 1 = w.heap.size + 2 from rfl, HA3.out.o6.cell]; rfl
  have f4 : w3.frozen? ⟨w.heap.size + 1 + 1, 4, none⟩ = false := HA3.out.o6.free 4
  have o5 : w3.cell? ⟨w.heap.size + 1 + 1, 5, none⟩ = some (.int .i64 0) := by rw [show w.heap.size + 1 + 1 = w.heap.size + 2 from rfl, HA3.out.o6.cell]; rfl
  have f5 : w3.frozen? ⟨w.heap.size + 1 + 1, 5, none⟩ = false := HA3.out.o6.free 5
  have o6 : w3.cell? ⟨w.heap.size + 1 + 1, 6, none⟩ = some (.string ⟨#[]⟩) := by rw [show w.heap.size + 1 + 1 = w.heap.size + 2 from rfl, HA3.out.o6.cell]; rfl
  have f6 : w3.frozen? ⟨w.heap.size + 1 + 1, 6, none⟩ = false := HA3.out.o6.free 6
  go_wp2_with fail
  refine HK0.out _ _ ?_
  clear HK0
  have HF := HB.out.2.2 ▸ (HA3.out.set HB.out.1 0 (.int .i64 1))
  exact atail (e := 1) HF HB.out.2.1 _ _ _ _ _ _ _ _ _ _ _ _ _ _ _ _ _ _ _ _ _ _ _ _ _ _ _ _ _ _ _ _ _ _ _ _ _ _ _ _ _ _ _ _ _ _ _ _ _ _ _ _ _ _ _ _ _ _ _ _ _ _ _ _ _ _ _ _ _ _ _ _ _ _ _ _ _ _ _ _ _ _ _ _ _ _ _ _ _ _ _ _ _ _ _ _ _ _ _ _ _ _ _ _ _ _ _ _ _ _ _ _ _ _ _ _ _ _ _ _ _ _ _ _ _ _ _ _ _ _ _ _ _ _ _ _ _ _ _ _ _ _ _ _ _ _ _ _ _ _ _ _ _ _ _ _ _ _ _ _ _ _ _ _ _ _ _ _ _ _ _ _ _ _ _ _ _ _ _ _ _ _ _ _ _ _ _ _ _ _ _ _ _ _ _ _ _ _ _ _ _ _ _

set_option maxRecDepth 100000 in
set_option maxHeartbeats 1000000 in
theorem ask_hold {w : World} {v : Value} {A : Option Addr} {l : List UInt8} {c : Nat} {p q n : Int} {lv : Bool} (hB : Base w v A l) (hl : l.length ≤ 1048576) :
    Calls Try.prog 4 #[v, .agg #[.int .i64 6, .int .i64 p, .int .i64 q, .int .i64 n, .slice A l.length c, .bool lv]] w fun r w' => r = .returned (.tuple #[.agg (ansE 1).toArray, .bool true]) ∧ Mod no w w' := by
  obtain ⟨m, hm⟩ : ∃ m : List Value, m = [.int .i64 6, .int .i64 p, .int .i64 q, .int .i64 n, .slice A l.length c, .bool lv] := ⟨_, rfl⟩
  rw [show (#[.int .i64 6, .int .i64 p, .int .i64 q, .int .i64 n, .slice A l.length c, .bool lv] : Array Value) = m.toArray by rw [hm]]
  have m1 : Mod no w (((w.alloc (.cells m.toArray 34)).alloc (.cells #[.int .i64 0, .int .i64 0, .int .i64 0, .string ⟨#[]⟩, .int .i64 0, .int .i64 0, .string ⟨#[]⟩] 37)).alloc (.cells #[.int .i64 0, .int .i64 0, .int .i64 0, .string ⟨#[]⟩, .int .i64 0, .int .i64 0, .string ⟨#[]⟩] 37)) := (((Mod.refl no w).alloc _).alloc _).alloc _
  have bx : Blk (((w.alloc (.cells m.toArray 34)).alloc (.cells #[.int .i64 0, .int .i64 0, .int .i64 0, .string ⟨#[]⟩, .int .i64 0, .int .i64 0, .string ⟨#[]⟩] 37)).alloc (.cells #[.int .i64 0, .int .i64 0, .int .i64 0, .string ⟨#[]⟩, .int .i64 0, .int .i64 0, .string ⟨#[]⟩] 37)) w.heap.size 34 m.toArray := ((Blk.new w 34 m.toArray).alloc _).alloc _
  have b4 : Blk (((w.alloc (.cells m.toArray 34)).alloc (.cells #[.int .i64 0, .int .i64 0, .int .i64 0, .string ⟨#[]⟩, .int .i64 0, .int .i64 0, .string ⟨#[]⟩] 37)).alloc (.cells #[.int .i64 0, .int .i64 0, .int .i64 0, .string ⟨#[]⟩, .int .i64 0, .int .i64 0, .string ⟨#[]⟩] 37)) (w.alloc (.cells m.toArray 34)).heap.size 37 (ansE 0).toArray := (show Blk ((w.alloc (.cells m.toArray 34)).alloc (.cells #[.int .i64 0, .int .i64 0, .int .i64 0, .string ⟨#[]⟩, .int .i64 0, .int .i64 0, .string ⟨#[]⟩] 37)) (w.alloc (.cells m.toArray 34)).heap.size 37 (ansE 0).toArray from Blk.new (w.alloc (.cells m.toArray 34)) 37 (ansE 0).toArray).alloc (.cells #[.int .i64 0, .int .i64 0, .int .i64 0, .string ⟨#[]⟩, .int .i64 0, .int .i64 0, .string ⟨#[]⟩] 37)
  rw [show (w.alloc (.cells m.toArray 34)).heap.size = w.heap.size + 1 from by simp] at b4
  have b6 : Blk (((w.alloc (.cells m.toArray 34)).alloc (.cells #[.int .i64 0, .int .i64 0, .int .i64 0, .string ⟨#[]⟩, .int .i64 0, .int .i64 0, .string ⟨#[]⟩] 37)).alloc (.cells #[.int .i64 0, .int .i64 0, .int .i64 0, .string ⟨#[]⟩, .int .i64 0, .int .i64 0, .string ⟨#[]⟩] 37)) ((w.alloc (.cells m.toArray 34)).alloc (.cells #[.int .i64 0, .int .i64 0, .int .i64 0, .string ⟨#[]⟩, .int .i64 0, .int .i64 0, .string ⟨#[]⟩] 37)).heap.size 37 (ansE 0).toArray := Blk.new ((w.alloc (.cells m.toArray 34)).alloc (.cells #[.int .i64 0, .int .i64 0, .int .i64 0, .string ⟨#[]⟩, .int .i64 0, .int .i64 0, .string ⟨#[]⟩] 37)) 37 (ansE 0).toArray
  rw [show ((w.alloc (.cells m.toArray 34)).alloc (.cells #[.int .i64 0, .int .i64 0, .int .i64 0, .string ⟨#[]⟩, .int .i64 0, .int .i64 0, .string ⟨#[]⟩] 37)).heap.size = w.heap.size + 2 from by simp] at b6
  have d4 : (((w.alloc (.cells m.toArray 34)).alloc (.cells #[.int .i64 0, .int .i64 0, .int .i64 0, .string ⟨#[]⟩, .int .i64 0, .int .i64 0, .string ⟨#[]⟩] 37)).alloc (.cells #[.int .i64 0, .int .i64 0, .int .i64 0, .string ⟨#[]⟩, .int .i64 0, .int .i64 0, .string ⟨#[]⟩] 37)).cell? ⟨w.heap.size, 4, none⟩ = some (.slice A l.length c) := by rw [bx.cell, hm]; rfl
  have H1 := Lib.hid (And.intro bx (And.intro b4 (And.intro b6 m1)))
  have HB := Lib.hid (And.intro hB (And.intro hl hm))
  clear m1 bx b4 b6 hB hl hm
  go_enter Try.func4, Try.ntmps4
  show Code.wp Try.prog (Code.seq (sL askC) (Code.seq (sL a1C) (Code.seq (sL a2C) (Code.seq (sL a3C) a4C)))) _ _ _
  refine wp_seq_k fun K0 hK0 => ?_
  have HK0 := Lib.hid hK0
  clear hK0
  conv => arg 2; whnf
  go_wp2_with fail
  refine HK0.out _ _ ?_
  clear HK0
  refine wp_seq_k fun K0 hK0 => ?_
  have HK0 := Lib.hid hK0
  clear hK0
  conv => arg 2; whnf
  go_wp2_with fail
  refine HK0.out _ _ ?_
  clear HK0
  refine wp_seq_k fun K0 hK0 => ?_
  have HK0 := Lib.hid hK0
  clear hK0
  conv => arg 2; whnf
  go_wp2_with fail
  generalize (((w.alloc (.cells m.toArray 34)).alloc (.cells #[.int .i64 0, .int .i64 0, .int .i64 0, .string ⟨#[]⟩, .int .i64 0, .int .i64 0, .string ⟨#[]⟩] 37)).alloc (.cells #[.int .i64 0, .int .i64 0, .int .i64 0, .string ⟨#[]⟩, .int .i64 0, .int .i64 0, .string ⟨#[]⟩] 37)) = w1 at *
  refine (copied_l (HB.out.1.d.mod_no H1.out.2.2.2).rds HB.out.2.1).mono ?_
  rintro r w2 ⟨g, rfl, hc2, hg2, m2⟩
  have hs1 := H1.out.2.2.1.lt
  have HA := Lib.hid (show Aa w w2 v A l g m (ansE 0) from ⟨H1.out.1.mod m2 (fun c => c), H1.out.2.1.mod m2 (fun c => c), H1.out.2.2.1.mod m2 (fun c => c), hc2, (HB.out.1.d.mod_no H1.out.2.2.2).mod_no m2, by omega, (HB.out.1.z.mod_no H1.out.2.2.2).mod_no m2, H1.out.2.2.2.and_then m2⟩)
  clear hc2 hg2 m2 d4 hs1 H1
  go_wp2_with fail
  refine HK0.out _ _ ?_
  clear HK0
  have c0 : w2.cell? ⟨w.heap.size, 0, none⟩ = some (.int .i64 6) := by rw [HA.out.x.cell, HB.out.2.2]; rfl
  have c1 : w2.cell? ⟨w.heap.size, 1, none⟩ = some (.int .i64 p) := by rw [HA.out.x.cell, HB.out.2.2]; rfl
  have c2 : w2.cell? ⟨w.heap.size, 2, none⟩ = some (.int .i64 q) := by rw [HA.out.x.cell, HB.out.2.2]; rfl
  have c3 : w2.cell? ⟨w.heap.size, 3, none⟩ = some (.int .i64 n) := by rw [HA.out.x.cell, HB.out.2.2]; rfl
  have c5 : w2.cell? ⟨w.heap.size, 5, none⟩ = some (.bool lv) := by rw [HA.out.x.cell, HB.out.2.2]; rfl
  have o0 : w2.cell? ⟨w.heap.size + 1 + 1, 0, none⟩ = some (.int .i64 0) := by rw [show w.heap.size + 1 + 1 = w.heap.size + 2 from rfl, HA.out.o6.cell]; rfl
  have f0 : w2.frozen? ⟨w.heap.size + 1 + 1, 0, none⟩ = false := HA.out.o6.free 0
  have o1 : w2.cell? ⟨w.heap.size + 1 + 1, 1, none⟩ = some (.int .i64 0) := by rw [show w.heap.size + 1 + 1 = w.heap.size + 2 from rfl, HA.out.o6.cell]; rfl
  have f1 : w2.frozen? ⟨w.heap.size + 1 + 1, 1, none⟩ = false := HA.out.o6.free 1
  have o2 : w2.cell? ⟨w.heap.size + 1 + 1, 2, none⟩ = some (.int .i64 0) := by rw [show w.heap.size + 1 + 1 = w.heap.size + 2 from rfl, HA.out.o6.cell]; rfl
  have f2 : w2.frozen? ⟨w.heap.size + 1 + 1, 2, none⟩ = false := HA.out.o6.free 2
  have o3 : w2.cell? ⟨w.heap.size + 1 + 1, 3, none⟩ = some (.string ⟨#[]⟩) := by rw [show w.heap.size + 1 + 1 = w.heap.size + 2 from rfl, HA.out.o6.cell]; rfl
  have f3 : w2.frozen? ⟨w.heap.size + 1 + 1, 3, none⟩ = false := HA.out.o6.free 3
  have o4 : w2.cell? ⟨w.heap.size + 1 + 1, 4, none⟩ = some (.int .i64 0) := by rw [show w.heap.size + 1 + 1 = w.heap.size + 2 from rfl, HA.out.o6.cell]; rfl
  have f4 : w2.frozen? ⟨w.heap.size + 1 + 1, 4, none⟩ = false := HA.out.o6.free 4
  have o5 : w2.cell? ⟨w.heap.size + 1 + 1, 5, none⟩ = some (.int .i64 0) := by rw [show w.heap.size + 1 + 1 = w.heap.size + 2 from rfl, HA.out.o6.cell]; rfl
  have f5 : w2.frozen? ⟨w.heap.size + 1 + 1, 5, none⟩ = false := HA.out.o6.free 5
  have o6 : w2.cell? ⟨w.heap.size + 1 + 1, 6, none⟩ = some (.string ⟨#[]⟩) := by rw [show w.heap.size + 1 + 1 = w.heap.size + 2 from rfl, HA.out.o6.cell]; rfl
  have f6 : w2.frozen? ⟨w.heap.size + 1 + 1, 6, none⟩ = false := HA.out.o6.free 6
  refine wp_seq_k fun K0 hK0 => ?_
  have HK0 := Lib.hid hK0
  clear hK0
  conv => arg 2; whnf
  go_wp2_with fail
  refine (hold_n HA.out.z).mono ?_
  rintro r w3 ⟨rfl, m3⟩
  have HA3 := Lib.hid (HA.out.mod_no m3)
  clear c0 c1 c2 c3 c5 o0 f0 o1 f1 o2 f2 o3 f3 o4 f4 o5 f5 o6 f6
  clear m3
  have o0 : w3.cell? ⟨w.heap.size + 1 + 1, 0, none⟩ = some (.int .i64 0) := by rw [show w.heap.size + 1 + 1 = w.heap.size + 2 from rfl, HA3.out.o6.cell]; rfl
  have f0 : w3.frozen? ⟨w.heap.size + 1 + 1, 0, none⟩ = false := HA3.out.o6.free 0
  have o1 : w3.cell? ⟨w.heap.size + 1 + 1, 1, none⟩ = some (.int .i64 0) := by rw [show w.heap.size + 1 + 1 = w.heap.size + 2 from rfl, HA3.out.o6.cell]; rfl
  have f1 : w3.frozen? ⟨w.heap.size + 1 + 1, 1, none⟩ = false := HA3.out.o6.free 1
  have o2 : w3.cell? ⟨w.heap.size + 1 + 1, 2, none⟩ = some (.int .i64 0) := by rw [show w.heap.size + 1 + 1 = w.heap.size + 2 from rfl, HA3.out.o6.cell]; rfl
  have f2 : w3.frozen? ⟨w.heap.size + 1 + 1, 2, none⟩ = false := HA3.out.o6.free 2
  have o3 : w3.cell? ⟨w.heap.size + 1 + 1, 3, none⟩ = some (.string ⟨#[]⟩) := by rw [show w.heap.size + 1 + 1 = w.heap.size + 2 from rfl, HA3.out.o6.cell]; rfl
  have f3 : w3.frozen? ⟨w.heap.size + 1 + 1, 3, none⟩ = false := HA3.out.o6.free 3
  have o4 : w3.cell? ⟨w.heap.size + 1 + 1, 4, none⟩ = some (.int .i64 0) := by rw [show w.heap.size + 1 + 1 = w.heap.size + 2 from rfl, HA3.out.o6.cell]; rfl
  have f4 : w3.frozen? ⟨w.heap.size + 1 + 1, 4, none⟩ = false := HA3.out.o6.free 4
  have o5 : w3.cell? ⟨w.heap.size + 1 + 1, 5, none⟩ = some (.int .i64 0) := by rw [show w.heap.size + 1 + 1 = w.heap.size + 2 from rfl, HA3.out.o6.cell]; rfl
  have f5 : w3.frozen? ⟨w.heap.size + 1 + 1, 5, none⟩ = false := HA3.out.o6.free 5
  have o6 : w3.cell? ⟨w.heap.size + 1 + 1, 6, none⟩ = some (.string ⟨#[]⟩) := by rw [show w.heap.size + 1 + 1 = w.heap.size + 2 from rfl, HA3.out.o6.cell]; rfl
  have f6 : w3.frozen? ⟨w.heap.size + 1 + 1, 6, none⟩ = false := HA3.out.o6.free 6
  go_wp2_with fail
  refine HK0.out _ _ ?_
  clear HK0
  have HF := HB.out.2.2 ▸ (HA3.out.set HB.out.1 0 (.int .i64 1))
  exact atail (e := 1) HF HB.out.2.1 _ _ _ _ _ _ _ _ _ _ _ _ _ _ _ _ _ _ _ _ _ _ _ _ _ _ _ _ _ _ _ _ _ _ _ _ _ _ _ _ _ _ _ _ _ _ _ _ _ _ _ _ _ _ _ _ _ _ _ _ _ _ _ _ _ _ _ _ _ _ _ _ _ _ _ _ _ _ _ _ _ _ _ _ _ _ _ _ _ _ _ _ _ _ _ _ _ _ _ _ _ _ _ _ _ _ _ _ _ _ _ _ _ _ _ _ _ _ _ _ _ _ _ _ _ _ _ _ _ _ _ _ _ _ _ _ _ _ _ _ _ _ _ _ _ _ _ _ _ _ _ _ _ _ _ _ _ _ _ _ _ _ _ _ _ _ _ _ _ _ _ _ _ _ _ _ _ _ _ _ _ _ _ _ _ _ _ _ _ _ _ _ _ _ _ _ _ _ _ _ _ _ _

set_option maxRecDepth 100000 in
set_option maxHeartbeats 1000000 in
theorem ask_let {w : World} {v : Value} {A : Option Addr} {l : List UInt8} {c : Nat} {p q n : Int} {lv : Bool} (hB : Base w v A l) (hl : l.length ≤ 1048576) :
    Calls Try.prog 4 #[v, .agg #[.int .i64 7, .int .i64 p, .int .i64 q, .int .i64 n, .slice A l.length c, .bool lv]] w fun r w' => r = .returned (.tuple #[.agg (ansE 1).toArray, .bool true]) ∧ Mod no w w' := by
  obtain ⟨m, hm⟩ : ∃ m : List Value, m = [.int .i64 7, .int .i64 p, .int .i64 q, .int .i64 n, .slice A l.length c, .bool lv] := ⟨_, rfl⟩
  rw [show (#[.int .i64 7, .int .i64 p, .int .i64 q, .int .i64 n, .slice A l.length c, .bool lv] : Array Value) = m.toArray by rw [hm]]
  have m1 : Mod no w (((w.alloc (.cells m.toArray 34)).alloc (.cells #[.int .i64 0, .int .i64 0, .int .i64 0, .string ⟨#[]⟩, .int .i64 0, .int .i64 0, .string ⟨#[]⟩] 37)).alloc (.cells #[.int .i64 0, .int .i64 0, .int .i64 0, .string ⟨#[]⟩, .int .i64 0, .int .i64 0, .string ⟨#[]⟩] 37)) := (((Mod.refl no w).alloc _).alloc _).alloc _
  have bx : Blk (((w.alloc (.cells m.toArray 34)).alloc (.cells #[.int .i64 0, .int .i64 0, .int .i64 0, .string ⟨#[]⟩, .int .i64 0, .int .i64 0, .string ⟨#[]⟩] 37)).alloc (.cells #[.int .i64 0, .int .i64 0, .int .i64 0, .string ⟨#[]⟩, .int .i64 0, .int .i64 0, .string ⟨#[]⟩] 37)) w.heap.size 34 m.toArray := ((Blk.new w 34 m.toArray).alloc _).alloc _
  have b4 : Blk (((w.alloc (.cells m.toArray 34)).alloc (.cells #[.int .i64 0, .int .i64 0, .int .i64 0, .string ⟨#[]⟩, .int .i64 0, .int .i64 0, .string ⟨#[]⟩] 37)).alloc (.cells #[.int .i64 0, .int .i64 0, .int .i64 0, .string ⟨#[]⟩, .int .i64 0, .int .i64 0, .string ⟨#[]⟩] 37)) (w.alloc (.cells m.toArray 34)).heap.size 37 (ansE 0).toArray := (show Blk ((w.alloc (.cells m.toArray 34)).alloc (.cells #[.int .i64 0, .int .i64 0, .int .i64 0, .string ⟨#[]⟩, .int .i64 0, .int .i64 0, .string ⟨#[]⟩] 37)) (w.alloc (.cells m.toArray 34)).heap.size 37 (ansE 0).toArray from Blk.new (w.alloc (.cells m.toArray 34)) 37 (ansE 0).toArray).alloc (.cells #[.int .i64 0, .int .i64 0, .int .i64 0, .string ⟨#[]⟩, .int .i64 0, .int .i64 0, .string ⟨#[]⟩] 37)
  rw [show (w.alloc (.cells m.toArray 34)).heap.size = w.heap.size + 1 from by simp] at b4
  have b6 : Blk (((w.alloc (.cells m.toArray 34)).alloc (.cells #[.int .i64 0, .int .i64 0, .int .i64 0, .string ⟨#[]⟩, .int .i64 0, .int .i64 0, .string ⟨#[]⟩] 37)).alloc (.cells #[.int .i64 0, .int .i64 0, .int .i64 0, .string ⟨#[]⟩, .int .i64 0, .int .i64 0, .string ⟨#[]⟩] 37)) ((w.alloc (.cells m.toArray 34)).alloc (.cells #[.int .i64 0, .int .i64 0, .int .i64 0, .string ⟨#[]⟩, .int .i64 0, .int .i64 0, .string ⟨#[]⟩] 37)).heap.size 37 (ansE 0).toArray := Blk.new ((w.alloc (.cells m.toArray 34)).alloc (.cells #[.int .i64 0, .int .i64 0, .int .i64 0, .string ⟨#[]⟩, .int .i64 0, .int .i64 0, .string ⟨#[]⟩] 37)) 37 (ansE 0).toArray
  rw [show ((w.alloc (.cells m.toArray 34)).alloc (.cells #[.int .i64 0, .int .i64 0, .int .i64 0, .string ⟨#[]⟩, .int .i64 0, .int .i64 0, .string ⟨#[]⟩] 37)).heap.size = w.heap.size + 2 from by simp] at b6
  have d4 : (((w.alloc (.cells m.toArray 34)).alloc (.cells #[.int .i64 0, .int .i64 0, .int .i64 0, .string ⟨#[]⟩, .int .i64 0, .int .i64 0, .string ⟨#[]⟩] 37)).alloc (.cells #[.int .i64 0, .int .i64 0, .int .i64 0, .string ⟨#[]⟩, .int .i64 0, .int .i64 0, .string ⟨#[]⟩] 37)).cell? ⟨w.heap.size, 4, none⟩ = some (.slice A l.length c) := by rw [bx.cell, hm]; rfl
  have H1 := Lib.hid (And.intro bx (And.intro b4 (And.intro b6 m1)))
  have HB := Lib.hid (And.intro hB (And.intro hl hm))
  clear m1 bx b4 b6 hB hl hm
  go_enter Try.func4, Try.ntmps4
  show Code.wp Try.prog (Code.seq (sL askC) (Code.seq (sL a1C) (Code.seq (sL a2C) (Code.seq (sL a3C) a4C)))) _ _ _
  refine wp_seq_k fun K0 hK0 => ?_
  have HK0 := Lib.hid hK0
  clear hK0
  conv => arg 2; whnf
  go_wp2_with fail
  refine HK0.out _ _ ?_
  clear HK0
  refine wp_seq_k fun K0 hK0 => ?_
  have HK0 := Lib.hid hK0
  clear hK0
  conv => arg 2; whnf
  go_wp2_with fail
  refine HK0.out _ _ ?_
  clear HK0
  refine wp_seq_k fun K0 hK0 => ?_
  have HK0 := Lib.hid hK0
  clear hK0
  conv => arg 2; whnf
  go_wp2_with fail
  generalize (((w.alloc (.cells m.toArray 34)).alloc (.cells #[.int .i64 0, .int .i64 0, .int .i64 0, .string ⟨#[]⟩, .int .i64 0, .int .i64 0, .string ⟨#[]⟩] 37)).alloc (.cells #[.int .i64 0, .int .i64 0, .int .i64 0, .string ⟨#[]⟩, .int .i64 0, .int .i64 0, .string ⟨#[]⟩] 37)) = w1 at *
  refine (copied_l (HB.out.1.d.mod_no H1.out.2.2.2).rds HB.out.2.1).mono ?_
  rintro r w2 ⟨g, rfl, hc2, hg2, m2⟩
  have hs1 := H1.out.2.2.1.lt
  have HA := Lib.hid (show Aa w w2 v A l g m (ansE 0) from ⟨H1.out.1.mod m2 (fun c => c), H1.out.2.1.mod m2 (fun c => c), H1.out.2.2.1.mod m2 (fun c => c), hc2, (HB.out.1.d.mod_no H1.out.2.2.2).mod_no m2, by omega, (HB.out.1.z.mod_no H1.out.2.2.2).mod_no m2, H1.out.2.2.2.and_then m2⟩)
  clear hc2 hg2 m2 d4 hs1 H1
  go_wp2_with fail
  refine HK0.out _ _ ?_
  clear HK0
  have c0 : w2.cell? ⟨w.heap.size, 0, none⟩ = some (.int .i64 7) := by rw [HA.out.x.cell, HB.out.2.2]; rfl
  have c1 : w2.cell? ⟨w.heap.size, 1, none⟩ = some (.int .i64 p) := by rw [HA.out.x.cell, HB.out.2.2]; rfl
  have c2 : w2.cell? ⟨w.heap.size, 2, none⟩ = some (.int .i64 q) := by rw [HA.out.x.cell, HB.out.2.2]; rfl
  have c3 : w2.cell? ⟨w.heap.size, 3, none⟩ = some (.int .i64 n) := by rw [HA.out.x.cell, HB.out.2.2]; rfl
  have c5 : w2.cell? ⟨w.heap.size, 5, none⟩ = some (.bool lv) := by rw [HA.out.x.cell, HB.out.2.2]; rfl
  have o0 : w2.cell? ⟨w.heap.size + 1 + 1, 0, none⟩ = some (.int .i64 0) := by rw [show w.heap.size + 1 + 1 = w.heap.size + 2 from rfl, HA.out.o6.cell]; rfl
  have f0 : w2.frozen? ⟨w.heap.size + 1 + 1, 0, none⟩ = false := HA.out.o6.free 0
  have o1 : w2.cell? ⟨w.heap.size + 1 + 1, 1, none⟩ = some (.int .i64 0) := by rw [show w.heap.size + 1 + 1 = w.heap.size + 2 from rfl, HA.out.o6.cell]; rfl
  have f1 : w2.frozen? ⟨w.heap.size + 1 + 1, 1, none⟩ = false := HA.out.o6.free 1
  have o2 : w2.cell? ⟨w.heap.size + 1 + 1, 2, none⟩ = some (.int .i64 0) := by rw [show w.heap.size + 1 + 1 = w.heap.size + 2 from rfl, HA.out.o6.cell]; rfl
  have f2 : w2.frozen? ⟨w.heap.size + 1 + 1, 2, none⟩ = false := HA.out.o6.free 2
  have o3 : w2.cell? ⟨w.heap.size + 1 + 1, 3, none⟩ = some (.string ⟨#[]⟩) := by rw [show w.heap.size + 1 + 1 = w.heap.size + 2 from rfl, HA.out.o6.cell]; rfl
  have f3 : w2.frozen? ⟨w.heap.size + 1 + 1, 3, none⟩ = false := HA.out.o6.free 3
  have o4 : w2.cell? ⟨w.heap.size + 1 + 1, 4, none⟩ = some (.int .i64 0) := by rw [show w.heap.size + 1 + 1 = w.heap.size + 2 from rfl, HA.out.o6.cell]; rfl
  have f4 : w2.frozen? ⟨w.heap.size + 1 + 1, 4, none⟩ = false := HA.out.o6.free 4
  have o5 : w2.cell? ⟨w.heap.size + 1 + 1, 5, none⟩ = some (.int .i64 0) := by rw [show w.heap.size + 1 + 1 = w.heap.size + 2 from rfl, HA.out.o6.cell]; rfl
  have f5 : w2.frozen? ⟨w.heap.size + 1 + 1, 5, none⟩ = false := HA.out.o6.free 5
  have o6 : w2.cell? ⟨w.heap.size + 1 + 1, 6, none⟩ = some (.string ⟨#[]⟩) := by rw [show w.heap.size + 1 + 1 = w.heap.size + 2 from rfl, HA.out.o6.cell]; rfl
  have f6 : w2.frozen? ⟨w.heap.size + 1 + 1, 6, none⟩ = false := HA.out.o6.free 6
  refine wp_seq_k fun K0 hK0 => ?_
  have HK0 := Lib.hid hK0
  clear hK0
  conv => arg 2; whnf
  go_wp2_with fail
  refine (let_n HA.out.z).mono ?_
  rintro r w3 ⟨rfl, m3⟩
  have HA3 := Lib.hid (HA.out.mod_no m3)
  clear c0 c1 c2 c3 c5 o0 f0 o1 f1 o2 f2 o3 f3 o4 f4 o5 f5 o6 f6
  clear m3
  have o0 : w3.cell? ⟨w.heap.size + 1 + 1, 0, none⟩ = some (.int .i64 0) := by rw [show w.heap.size + 1 + 1 = w.heap.size + 2 from rfl, HA3.out.o6.cell]; rfl
  have f0 : w3.frozen? ⟨w.heap.size + 1 + 1, 0, none⟩ = false := HA3.out.o6.free 0
  have o1 : w3.cell? ⟨w.heap.size + 1 + 1, 1, none⟩ = some (.int .i64 0) := by rw [show w.heap.size + 1 + 1 = w.heap.size + 2 from rfl, HA3.out.o6.cell]; rfl
  have f1 : w3.frozen? ⟨w.heap.size + 1 + 1, 1, none⟩ = false := HA3.out.o6.free 1
  have o2 : w3.cell? ⟨w.heap.size + 1 + 1, 2, none⟩ = some (.int .i64 0) := by rw [show w.heap.size + 1 + 1 = w.heap.size + 2 from rfl, HA3.out.o6.cell]; rfl
  have f2 : w3.frozen? ⟨w.heap.size + 1 + 1, 2, none⟩ = false := HA3.out.o6.free 2
  have o3 : w3.cell? ⟨w.heap.size + 1 + 1, 3, none⟩ = some (.string ⟨#[]⟩) := by rw [show w.heap.size + 1 + 1 = w.heap.size + 2 from rfl, HA3.out.o6.cell]; rfl
  have f3 : w3.frozen? ⟨w.heap.size + 1 + 1, 3, none⟩ = false := HA3.out.o6.free 3
  have o4 : w3.cell? ⟨w.heap.size + 1 + 1, 4, none⟩ = some (.int .i64 0) := by rw [show w.heap.size + 1 + 1 = w.heap.size + 2 from rfl, HA3.out.o6.cell]; rfl
  have f4 : w3.frozen? ⟨w.heap.size + 1 + 1, 4, none⟩ = false := HA3.out.o6.free 4
  have o5 : w3.cell? ⟨w.heap.size + 1 + 1, 5, none⟩ = some (.int .i64 0) := by rw [show w.heap.size + 1 + 1 = w.heap.size + 2 from rfl, HA3.out.o6.cell]; rfl
  have f5 : w3.frozen? ⟨w.heap.size + 1 + 1, 5, none⟩ = false := HA3.out.o6.free 5
  have o6 : w3.cell? ⟨w.heap.size + 1 + 1, 6, none⟩ = some (.string ⟨#[]⟩) := by rw [show w.heap.size + 1 + 1 = w.heap.size + 2 from rfl, HA3.out.o6.cell]; rfl
  have f6 : w3.frozen? ⟨w.heap.size + 1 + 1, 6, none⟩ = false := HA3.out.o6.free 6
  go_wp2_with fail
  refine HK0.out _ _ ?_
  clear HK0
  have HF := HB.out.2.2 ▸ (HA3.out.set HB.out.1 0 (.int .i64 1))
  exact atail (e := 1) HF HB.out.2.1 _ _ _ _ _ _ _ _ _ _ _ _ _ _ _ _ _ _ _ _ _ _ _ _ _ _ _ _ _ _ _ _ _ _ _ _ _ _ _ _ _ _ _ _ _ _ _ _ _ _ _ _ _ _ _ _ _ _ _ _ _ _ _ _ _ _ _ _ _ _ _ _ _ _ _ _ _ _ _ _ _ _ _ _ _ _ _ _ _ _ _ _ _ _ _ _ _ _ _ _ _ _ _ _ _ _ _ _ _ _ _ _ _ _ _ _ _ _ _ _ _ _ _ _ _ _ _ _ _ _ _ _ _ _ _ _ _ _ _ _ _ _ _ _ _ _ _ _ _ _ _ _ _ _ _ _ _ _ _ _ _ _ _ _ _ _ _ _ _ _ _ _ _ _ _ _ _ _ _ _ _ _ _ _ _ _ _ _ _ _ _ _ _ _ _ _ _ _ _ _ _ _ _

set_option maxRecDepth 100000 in
set_option maxHeartbeats 1000000 in
theorem ask_free {w : World} {v : Value} {A : Option Addr} {l : List UInt8} {c : Nat} {p q n : Int} {lv : Bool} (hB : Base w v A l) (hl : l.length ≤ 1048576) :
    Calls Try.prog 4 #[v, .agg #[.int .i64 11, .int .i64 p, .int .i64 q, .int .i64 n, .slice A l.length c, .bool lv]] w fun r w' => r = .returned (.tuple #[.agg (ansE 1).toArray, .bool true]) ∧ Mod no w w' := by
  obtain ⟨m, hm⟩ : ∃ m : List Value, m = [.int .i64 11, .int .i64 p, .int .i64 q, .int .i64 n, .slice A l.length c, .bool lv] := ⟨_, rfl⟩
  rw [show (#[.int .i64 11, .int .i64 p, .int .i64 q, .int .i64 n, .slice A l.length c, .bool lv] : Array Value) = m.toArray by rw [hm]]
  have m1 : Mod no w (((w.alloc (.cells m.toArray 34)).alloc (.cells #[.int .i64 0, .int .i64 0, .int .i64 0, .string ⟨#[]⟩, .int .i64 0, .int .i64 0, .string ⟨#[]⟩] 37)).alloc (.cells #[.int .i64 0, .int .i64 0, .int .i64 0, .string ⟨#[]⟩, .int .i64 0, .int .i64 0, .string ⟨#[]⟩] 37)) := (((Mod.refl no w).alloc _).alloc _).alloc _
  have bx : Blk (((w.alloc (.cells m.toArray 34)).alloc (.cells #[.int .i64 0, .int .i64 0, .int .i64 0, .string ⟨#[]⟩, .int .i64 0, .int .i64 0, .string ⟨#[]⟩] 37)).alloc (.cells #[.int .i64 0, .int .i64 0, .int .i64 0, .string ⟨#[]⟩, .int .i64 0, .int .i64 0, .string ⟨#[]⟩] 37)) w.heap.size 34 m.toArray := ((Blk.new w 34 m.toArray).alloc _).alloc _
  have b4 : Blk (((w.alloc (.cells m.toArray 34)).alloc (.cells #[.int .i64 0, .int .i64 0, .int .i64 0, .string ⟨#[]⟩, .int .i64 0, .int .i64 0, .string ⟨#[]⟩] 37)).alloc (.cells #[.int .i64 0, .int .i64 0, .int .i64 0, .string ⟨#[]⟩, .int .i64 0, .int .i64 0, .string ⟨#[]⟩] 37)) (w.alloc (.cells m.toArray 34)).heap.size 37 (ansE 0).toArray := (show Blk ((w.alloc (.cells m.toArray 34)).alloc (.cells #[.int .i64 0, .int .i64 0, .int .i64 0, .string ⟨#[]⟩, .int .i64 0, .int .i64 0, .string ⟨#[]⟩] 37)) (w.alloc (.cells m.toArray 34)).heap.size 37 (ansE 0).toArray from Blk.new (w.alloc (.cells m.toArray 34)) 37 (ansE 0).toArray).alloc (.cells #[.int .i64 0, .int .i64 0, .int .i64 0, .string ⟨#[]⟩, .int .i64 0, .int .i64 0, .string ⟨#[]⟩] 37)
  rw [show (w.alloc (.cells m.toArray 34)).heap.size = w.heap.size + 1 from by simp] at b4
  have b6 : Blk (((w.alloc (.cells m.toArray 34)).alloc (.cells #[.int .i64 0, .int .i64 0, .int .i64 0, .string ⟨#[]⟩, .int .i64 0, .int .i64 0, .string ⟨#[]⟩] 37)).alloc (.cells #[.int .i64 0, .int .i64 0, .int .i64 0, .string ⟨#[]⟩, .int .i64 0, .int .i64 0, .string ⟨#[]⟩] 37)) ((w.alloc (.cells m.toArray 34)).alloc (.cells #[.int .i64 0, .int .i64 0, .int .i64 0, .string ⟨#[]⟩, .int .i64 0, .int .i64 0, .string ⟨#[]⟩] 37)).heap.size 37 (ansE 0).toArray := Blk.new ((w.alloc (.cells m.toArray 34)).alloc (.cells #[.int .i64 0, .int .i64 0, .int .i64 0, .string ⟨#[]⟩, .int .i64 0, .int .i64 0, .string ⟨#[]⟩] 37)) 37 (ansE 0).toArray
  rw [show ((w.alloc (.cells m.toArray 34)).alloc (.cells #[.int .i64 0, .int .i64 0, .int .i64 0, .string ⟨#[]⟩, .int .i64 0, .int .i64 0, .string ⟨#[]⟩] 37)).heap.size = w.heap.size + 2 from by simp] at b6
  have d4 : (((w.alloc (.cells m.toArray 34)).alloc (.cells #[.int .i64 0, .int .i64 0, .int .i64 0, .string ⟨#[]⟩, .int .i64 0, .int .i64 0, .string ⟨#[]⟩] 37)).alloc (.cells #[.int .i64 0, .int .i64 0, .int .i64 0, .string ⟨#[]⟩, .int .i64 0, .int .i64 0, .string ⟨#[]⟩] 37)).cell? ⟨w.heap.size, 4, none⟩ = some (.slice A l.length c) := by rw [bx.cell, hm]; rfl
  have H1 := Lib.hid (And.intro bx (And.intro b4 (And.intro b6 m1)))
  have HB := Lib.hid (And.intro hB (And.intro hl hm))
  clear m1 bx b4 b6 hB hl hm
  go_enter Try.func4, Try.ntmps4
  show Code.wp Try.prog (Code.seq (sL askC) (Code.seq (sL a1C) (Code.seq (sL a2C) (Code.seq (sL a3C) a4C)))) _ _ _
  refine wp_seq_k fun K0 hK0 => ?_
  have HK0 := Lib.hid hK0
  clear hK0
  conv => arg 2; whnf
  go_wp2_with fail
  refine HK0.out _ _ ?_
  clear HK0
  refine wp_seq_k fun K0 hK0 => ?_
  have HK0 := Lib.hid hK0
  clear hK0
  conv => arg 2; whnf
  go_wp2_with fail
  refine HK0.out _ _ ?_
  clear HK0
  refine wp_seq_k fun K0 hK0 => ?_
  have HK0 := Lib.hid hK0
  clear hK0
  conv => arg 2; whnf
  go_wp2_with fail
  generalize (((w.alloc (.cells m.toArray 34)).alloc (.cells #[.int .i64 0, .int .i64 0, .int .i64 0, .string ⟨#[]⟩, .int .i64 0, .int .i64 0, .string ⟨#[]⟩] 37)).alloc (.cells #[.int .i64 0, .int .i64 0, .int .i64 0, .string ⟨#[]⟩, .int .i64 0, .int .i64 0, .string ⟨#[]⟩] 37)) = w1 at *
  refine (copied_l (HB.out.1.d.mod_no H1.out.2.2.2).rds HB.out.2.1).mono ?_
  rintro r w2 ⟨g, rfl, hc2, hg2, m2⟩
  have hs1 := H1.out.2.2.1.lt
  have HA := Lib.hid (show Aa w w2 v A l g m (ansE 0) from ⟨H1.out.1.mod m2 (fun c => c), H1.out.2.1.mod m2 (fun c => c), H1.out.2.2.1.mod m2 (fun c => c), hc2, (HB.out.1.d.mod_no H1.out.2.2.2).mod_no m2, by omega, (HB.out.1.z.mod_no H1.out.2.2.2).mod_no m2, H1.out.2.2.2.and_then m2⟩)
  clear hc2 hg2 m2 d4 hs1 H1
  go_wp2_with fail
  refine HK0.out _ _ ?_
  clear HK0
  have c0 : w2.cell? ⟨w.heap.size, 0, none⟩ = some (.int .i64 11) := by rw [HA.out.x.cell, HB.out.2.2]; rfl
  have c1 : w2.cell? ⟨w.heap.size, 1, none⟩ = some (.int .i64 p) := by rw [HA.out.x.cell, HB.out.2.2]; rfl
  have c2 : w2.cell? ⟨w.heap.size, 2, none⟩ = some (.int .i64 q) := by rw [HA.out.x.cell, HB.out.2.2]; rfl
  have c3 : w2.cell? ⟨w.heap.size, 3, none⟩ = some (.int .i64 n) := by rw [HA.out.x.cell, HB.out.2.2]; rfl
  have c5 : w2.cell? ⟨w.heap.size, 5, none⟩ = some (.bool lv) := by rw [HA.out.x.cell, HB.out.2.2]; rfl
  have o0 : w2.cell? ⟨w.heap.size + 1 + 1, 0, none⟩ = some (.int .i64 0) := by rw [show w.heap.size + 1 + 1 = w.heap.size + 2 from rfl, HA.out.o6.cell]; rfl
  have f0 : w2.frozen? ⟨w.heap.size + 1 + 1, 0, none⟩ = false := HA.out.o6.free 0
  have o1 : w2.cell? ⟨w.heap.size + 1 + 1, 1, none⟩ = some (.int .i64 0) := by rw [show w.heap.size + 1 + 1 = w.heap.size + 2 from rfl, HA.out.o6.cell]; rfl
  have f1 : w2.frozen? ⟨w.heap.size + 1 + 1, 1, none⟩ = false := HA.out.o6.free 1
  have o2 : w2.cell? ⟨w.heap.size + 1 + 1, 2, none⟩ = some (.int .i64 0) := by rw [show w.heap.size + 1 + 1 = w.heap.size + 2 from rfl, HA.out.o6.cell]; rfl
  have f2 : w2.frozen? ⟨w.heap.size + 1 + 1, 2, none⟩ = false := HA.out.o6.free 2
  have o3 : w2.cell? ⟨w.heap.size + 1 + 1, 3, none⟩ = some (.string ⟨#[]⟩) := by rw [show w.heap.size + 1 + 1 = w.heap.size + 2 from rfl, HA.out.o6.cell]; rfl
  have f3 : w2.frozen? ⟨w.heap.size + 1 + 1, 3, none⟩ = false := HA.out.o6.free 3
  have o4 : w2.cell? ⟨w.heap.size + 1 + 1, 4, none⟩ = some (.int .i64 0) := by rw [show w.heap.size + 1 + 1 = w.heap.size + 2 from rfl, HA.out.o6.cell]; rfl
  have f4 : w2.frozen? ⟨w.heap.size + 1 + 1, 4, none⟩ = false := HA.out.o6.free 4
  have o5 : w2.cell? ⟨w.heap.size + 1 + 1, 5, none⟩ = some (.int .i64 0) := by rw [show w.heap.size + 1 + 1 = w.heap.size + 2 from rfl, HA.out.o6.cell]; rfl
  have f5 : w2.frozen? ⟨w.heap.size + 1 + 1, 5, none⟩ = false := HA.out.o6.free 5
  have o6 : w2.cell? ⟨w.heap.size + 1 + 1, 6, none⟩ = some (.string ⟨#[]⟩) := by rw [show w.heap.size + 1 + 1 = w.heap.size + 2 from rfl, HA.out.o6.cell]; rfl
  have f6 : w2.frozen? ⟨w.heap.size + 1 + 1, 6, none⟩ = false := HA.out.o6.free 6
  refine wp_seq_k fun K0 hK0 => ?_
  have HK0 := Lib.hid hK0
  clear hK0
  conv => arg 2; whnf
  go_wp2_with fail
  refine (free_n HA.out.z).mono ?_
  rintro r w3 ⟨rfl, m3⟩
  have HA3 := Lib.hid (HA.out.mod_no m3)
  clear c0 c1 c2 c3 c5 o0 f0 o1 f1 o2 f2 o3 f3 o4 f4 o5 f5 o6 f6
  clear m3
  have o0 : w3.cell? ⟨w.heap.size + 1 + 1, 0, none⟩ = some (.int .i64 0) := by rw [show w.heap.size + 1 + 1 = w.heap.size + 2 from rfl, HA3.out.o6.cell]; rfl
  have f0 : w3.frozen? ⟨w.heap.size + 1 + 1, 0, none⟩ = false := HA3.out.o6.free 0
  have o1 : w3.cell? ⟨w.heap.size + 1 + 1, 1, none⟩ = some (.int .i64 0) := by rw [show w.heap.size + 1 + 1 = w.heap.size + 2 from rfl, HA3.out.o6.cell]; rfl
  have f1 : w3.frozen? ⟨w.heap.size + 1 + 1, 1, none⟩ = false := HA3.out.o6.free 1
  have o2 : w3.cell? ⟨w.heap.size + 1 + 1, 2, none⟩ = some (.int .i64 0) := by rw [show w.heap.size + 1 + 1 = w.heap.size + 2 from rfl, HA3.out.o6.cell]; rfl
  have f2 : w3.frozen? ⟨w.heap.size + 1 + 1, 2, none⟩ = false := HA3.out.o6.free 2
  have o3 : w3.cell? ⟨w.heap.size + 1 + 1, 3, none⟩ = some (.string ⟨#[]⟩) := by rw [show w.heap.size + 1 + 1 = w.heap.size + 2 from rfl, HA3.out.o6.cell]; rfl
  have f3 : w3.frozen? ⟨w.heap.size + 1 + 1, 3, none⟩ = false := HA3.out.o6.free 3
  have o4 : w3.cell? ⟨w.heap.size + 1 + 1, 4, none⟩ = some (.int .i64 0) := by rw [show w.heap.size + 1 + 1 = w.heap.size + 2 from rfl, HA3.out.o6.cell]; rfl
  have f4 : w3.frozen? ⟨w.heap.size + 1 + 1, 4, none⟩ = false := HA3.out.o6.free 4
  have o5 : w3.cell? ⟨w.heap.size + 1 + 1, 5, none⟩ = some (.int .i64 0) := by rw [show w.heap.size + 1 + 1 = w.heap.size + 2 from rfl, HA3.out.o6.cell]; rfl
  have f5 : w3.frozen? ⟨w.heap.size + 1 + 1, 5, none⟩ = false := HA3.out.o6.free 5
  have o6 : w3.cell? ⟨w.heap.size + 1 + 1, 6, none⟩ = some (.string ⟨#[]⟩) := by rw [show w.heap.size + 1 + 1 = w.heap.size + 2 from rfl, HA3.out.o6.cell]; rfl
  have f6 : w3.frozen? ⟨w.heap.size + 1 + 1, 6, none⟩ = false := HA3.out.o6.free 6
  go_wp2_with fail
  refine HK0.out _ _ ?_
  clear HK0
  have HF := HB.out.2.2 ▸ (HA3.out.set HB.out.1 0 (.int .i64 1))
  exact atail (e := 1) HF HB.out.2.1 _ _ _ _ _ _ _ _ _ _ _ _ _ _ _ _ _ _ _ _ _ _ _ _ _ _ _ _ _ _ _ _ _ _ _ _ _ _ _ _ _ _ _ _ _ _ _ _ _ _ _ _ _ _ _ _ _ _ _ _ _ _ _ _ _ _ _ _ _ _ _ _ _ _ _ _ _ _ _ _ _ _ _ _ _ _ _ _ _ _ _ _ _ _ _ _ _ _ _ _ _ _ _ _ _ _ _ _ _ _ _ _ _ _ _ _ _ _ _ _ _ _ _ _ _ _ _ _ _ _ _ _ _ _ _ _ _ _ _ _ _ _ _ _ _ _ _ _ _ _ _ _ _ _ _ _ _ _ _ _ _ _ _ _ _ _ _ _ _ _ _ _ _ _ _ _ _ _ _ _ _ _ _ _ _ _ _ _ _ _ _ _ _ _ _ _ _ _ _ _ _ _ _

end Go.Proofs.Ytkfcpnijhgaejaa.AN
