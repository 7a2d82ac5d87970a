/- errors.As of what wraps a Fault twice: the walk. -/
import Derived.Test.YtdmfipkmalhngaaDoorFtE
namespace Go.Proofs.YtdmfipkmalhngaaDoor.FT
open Go.RowKit Mem Go.Extern.Stop Go.Stop Go.Extern
set_option linter.unusedVariables false
set_option linter.unusedSimpArgs false

theorem noAsW (v : Value) (xT : TypeId) (w : World) : (Instr.typeAssert (.iface 31 v) xT 57 true).run Tryd.prog w = .ok (.tuple #[.nilIface, .bool false]) w := run_typeAssert_lacksB Tryd.underlying57 (by kernel_rfl) (by kernel_rfl) v xT w
set_option maxRecDepth 100000 in
set_option maxHeartbeats 8000000 in
theorem as_wrapped (a c x y : Int) (g : Nat) (w : World) (hg : w.cell? ⟨0, 0, none⟩ = some (.iface 53 (.agg #[.pointer (some ⟨4, 28, none⟩)]))) (hb : Blk w g 24 #[.int .i64 x, .int .i64 y]) :
    Calls Tryd.prog 7 #[.iface 31 (wrapped a c), .iface 33 (.pointer (some ⟨g, 0, none⟩))] w fun e w' => e = .returned (.bool true) ∧ found w w' g a c := by
  have hv := @run_callFunc_extern Tryd.prog 11 _ (fun args => ReflectliteValue.unpack (args.getD 0 (.tuple #[]))) Tryd.func11 (by kernel_rfl) (by kernel_rfl) (by kernel_rfl) (by kernel_rfl)
  have ht := @run_callFunc_extern Tryd.prog 12 _ (ReflectliteValue.methodAny (ReflectliteValue.valueError "reflectlite.Value.Type" 0) (fun t _ _ _ => ReflectliteType.toType t)) Tryd.func12 (by kernel_rfl) (by kernel_rfl) (by kernel_rfl) (by kernel_rfl)
  have hn := @run_callFunc_extern Tryd.prog 13 _ (ReflectliteValue.method (ReflectliteValue.valueError "reflectlite.Value.IsNil" 0) ReflectliteValue.isNil) Tryd.func13 (by kernel_rfl) (by kernel_rfl) (by kernel_rfl) (by kernel_rfl)
  have hk := @run_callFunc_extern Tryd.prog 46 _ (ReflectliteType.abiMethod fun t => do pure (.int .u8 (← Rtype.kind t))) Tryd.func46 (by kernel_rfl) (by kernel_rfl) (by kernel_rfl) (by kernel_rfl)
  have he := @run_callFunc_extern Tryd.prog 57 _ (ReflectliteType.method ReflectliteType.elem) Tryd.func57 (by kernel_rfl) (by kernel_rfl) (by kernel_rfl) (by kernel_rfl)
  have him := @run_callFunc_extern Tryd.prog 58 _ (ReflectliteType.relation "Implements" ReflectliteType.implements_) Tryd.func58 (by kernel_rfl) (by kernel_rfl) (by kernel_rfl) (by kernel_rfl)
  have hto := @run_callFunc_extern Tryd.prog 15 _ ReflectliteType.typeOf Tryd.func15 (by kernel_rfl) (by kernel_rfl) (by kernel_rfl) (by kernel_rfl)
  have has := @run_callFunc_extern Tryd.prog 55 _ (ReflectliteType.relation "AssignableTo" ReflectliteType.assignableTo) Tryd.func55 (by kernel_rfl) (by kernel_rfl) (by kernel_rfl) (by kernel_rfl)
  have hel := @run_callFunc_extern Tryd.prog 18 _ (ReflectliteValue.method (ReflectliteValue.valueError "reflectlite.Value.Elem" 0) ReflectliteValue.elem) Tryd.func18 (by kernel_rfl) (by kernel_rfl) (by kernel_rfl) (by kernel_rfl)
  have hst := @run_callFunc_extern Tryd.prog 19 _ ReflectliteValue.set Tryd.func19 (by kernel_rfl) (by kernel_rfl) (by kernel_rfl) (by kernel_rfl)
  have f1 := typeOfF
  have f2 := typeOfW
  have f3 := methodAssignableTo
  have f4 := assignF
  have f5 := assignW
  have f6 := valueOfF
  have f7 := valueOfP
  have f8 := typeP
  have f9 := methodKind
  have f10 := methodElem
  have f11 := methodImplements
  have f12 := kindP
  have f13 := kindF
  have f14 := elemP
  have f15 := implementsF
  have f16 := noAsW
  have f17 := hasUnwrapW
  have f18 := methodUnwrapW
  have hgl := hb.lt
  have hlt : 0 < w.heap.size := by omega
  have B1 : Blk (w.alloc (.cells #[.pointer (some ⟨g, 0, none⟩)] 33)) w.heap.size _ _ := Blk.new w _ _
  have n8 := isNilP ⟨w.heap.size, 0, none⟩ ⟨g, 0, none⟩ ((w.alloc (.cells #[.pointer (some ⟨g, 0, none⟩)] 33)).alloc (.cells #[.pointer (some ⟨4, 33, none⟩), .pointer (some ⟨w.heap.size, 0, none⟩), .int .u64 150] 40)) ((B1.alloc _).cell 0)
  have hg2 : ((w.alloc (.cells #[.pointer (some ⟨g, 0, none⟩)] 33)).alloc (.cells #[.pointer (some ⟨4, 33, none⟩), .pointer (some ⟨w.heap.size, 0, none⟩), .int .u64 150] 40)).cell? ⟨0, 0, none⟩ = some (.iface 53 (.agg #[.pointer (some ⟨4, 28, none⟩)])) := by
    rw [World.cell?_alloc_lt _ _ ⟨0, 0, none⟩ (by simp), World.cell?_alloc_lt _ _ ⟨0, 0, none⟩ hlt]; exact hg
  have el := elemVP ⟨w.heap.size, 0, none⟩ ⟨g, 0, none⟩ (((((w.alloc (.cells #[.pointer (some ⟨g, 0, none⟩)] 33)).alloc (.cells #[.pointer (some ⟨4, 33, none⟩), .pointer (some ⟨w.heap.size, 0, none⟩), .int .u64 150] 40)).alloc (.cells #[.pointer (some ⟨4, 33, none⟩), .pointer (some ⟨w.heap.size, 0, none⟩), .int .u64 150] 40)).alloc (.cells #[(.iface 31 (.agg #[.iface 24 (.agg #[.int .i64 a, .int .i64 c])]))] 31)).alloc (.cells #[(.iface 24 (.agg #[.int .i64 a, .int .i64 c]))] 31)) (((((B1.alloc _).alloc _).alloc _).alloc _).cell 0)
  have st := setF g (w.heap.size + 1 + 1 + 1 + 1 + 1) x y a c ((((((w.alloc (.cells #[.pointer (some ⟨g, 0, none⟩)] 33)).alloc (.cells #[.pointer (some ⟨4, 33, none⟩), .pointer (some ⟨w.heap.size, 0, none⟩), .int .u64 150] 40)).alloc (.cells #[.pointer (some ⟨4, 33, none⟩), .pointer (some ⟨w.heap.size, 0, none⟩), .int .u64 150] 40)).alloc (.cells #[(.iface 31 (.agg #[.iface 24 (.agg #[.int .i64 a, .int .i64 c])]))] 31)).alloc (.cells #[(.iface 24 (.agg #[.int .i64 a, .int .i64 c]))] 31)).alloc (.cells #[.int .i64 a, .int .i64 c] 24)) (Blk.new_at _ _ _ (by simp)) ((((((hb.alloc _).alloc _).alloc _).alloc _).alloc _).alloc _)
  have HR : found w ((((((((w.alloc (.cells #[.pointer (some ⟨g, 0, none⟩)] 33)).alloc (.cells #[.pointer (some ⟨4, 33, none⟩), .pointer (some ⟨w.heap.size, 0, none⟩), .int .u64 150] 40)).alloc (.cells #[.pointer (some ⟨4, 33, none⟩), .pointer (some ⟨w.heap.size, 0, none⟩), .int .u64 150] 40)).alloc (.cells #[(.iface 31 (.agg #[.iface 24 (.agg #[.int .i64 a, .int .i64 c])]))] 31)).alloc (.cells #[(.iface 24 (.agg #[.int .i64 a, .int .i64 c]))] 31)).alloc (.cells #[.int .i64 a, .int .i64 c] 24)).setCell ⟨g, 0, none⟩ (.int .i64 a)).setCell ⟨g, 1, none⟩ (.int .i64 c)) g a c :=
    ⟨(((((((((Mod.refl (one g) w).alloc _).alloc _).alloc _).alloc _).alloc _).alloc _).set (p := ⟨g, 0, none⟩) (fun _ => rfl) _).set (p := ⟨g, 1, none⟩) (fun _ => rfl) _), (((((((((hb.alloc _).alloc _).alloc _).alloc _).alloc _).alloc _)).put 0 (.int .i64 a)).put 1 (.int .i64 c))⟩
  have HRH := Lib.hid HR
  clear HR
  clear hb hg B1
  go_enter Tryd.func7, Tryd.ntmps7
  go_wp2
  refine wp_loop_rounds 4 ?_
  rw [rounds_succ]
  go_wp2
  rw [rounds_succ]
  go_wp2
  rw [rounds_succ]
  go_wp2
  go_ret
  exact ⟨rfl, HRH.out⟩
end Go.Proofs.YtdmfipkmalhngaaDoor.FT
