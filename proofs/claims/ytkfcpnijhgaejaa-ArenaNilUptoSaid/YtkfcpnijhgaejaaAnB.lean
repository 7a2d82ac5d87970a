/- Bytes that are copied with marked spare room behind (printed by arenanil2.py). -/
import Derived.Test.YtkfcpnijhgaejaaAnA
import Derived.OwnWalk
namespace Go.Proofs.Ytkfcpnijhgaejaa.AN
open Go.RowKit Mem
set_option linter.unusedVariables false
set_option linter.unusedSimpArgs false

theorem u8_info : (Try.prog.info? 5).map (fun i => (i.zero, i.size, i.bytes)) = some (some (.int .u8 0), 1, 1) := by kernel_rfl
theorem made_u8 (n : Nat) : madeCells (Value.int .u8 0).cells (n * 1) = (List.replicate n (Value.int .u8 0)).toArray := by
  rw [Nat.mul_one]
  apply Array.ext
  · simp [madeCells]
  · intro i h1 h2
    simp [madeCells, Value.cells, Nat.mod_one]
theorem own_blk {w : World} {base g n : Nat} {e : TypeId} {xs : List Value} (h : w.ownsRow base e 1 (.slice (some ⟨g, 0, none⟩) n n) n xs) : Blk w g e xs.toArray := by
  rcases h.2 with ⟨hv, _⟩ | ⟨g', cap, cur, hv, _, hb, _, _, hcs, h4⟩
  · cases hv
  · injection hv with hv h5 h6
    injection hv with hv
    injection hv with hv
    subst hv h6
    have hb : Blk w g e cur := hb
    have : cur = xs.toArray := by
      apply Array.ext'
      rw [← h4, List.take_of_length_le (by simp; omega)]
    rw [← this]; exact hb
theorem cell_lt {w : World} {a : Addr} {v : Value} (h : w.cell? a = some v) : a.block < w.heap.size := by
  unfold World.cell? at h
  split at h
  · split at h
    · simp at h
    · rename_i hs
      rcases Nat.lt_or_ge a.block w.heap.size with c | c
      · exact c
      · simp_all
  all_goals
    rcases Nat.lt_or_ge a.block w.heap.size with c | c
    · exact c
    · simp_all
/-- A copy at block g, marked behind. -/
def Cop (w : World) (g : Nat) (l : List UInt8) : Prop := ∃ cs : List Value, Blk w g 5 cs.toArray ∧ cs.length = l.length + 70 ∧ (∀ j, j < l.length → cs[j]? = (bvs l)[j]?) ∧ ∀ j, l.length ≤ j → j < l.length + 70 → cs[j]? = some (.int .u8 165)
theorem Cop.mod {S : Nat → Prop} {w w' : World} {g : Nat} {l : List UInt8} (h : Cop w g l) (hm : Mod S w w') (hn : ¬ S g) : Cop w' g l := by
  obtain ⟨cs, hb, h1, h2, h3⟩ := h
  exact ⟨cs, hb.mod hm hn, h1, h2, h3⟩
def CI1 (w : World) (g : Nat) (l : List UInt8) (i : Value) (wr : World) : Prop := ∃ k : Nat, k ≤ l.length ∧ i = .int .i64 (k : Int) ∧ Mod no w wr ∧ ∃ cs : List Value, Blk wr g 5 cs.toArray ∧ cs.length = l.length + 70 ∧ ∀ j, j < k → cs[j]? = (bvs l)[j]?
def CI2 (w : World) (g : Nat) (l : List UInt8) (i : Value) (wr : World) : Prop := ∃ k : Nat, k ≤ 70 ∧ i = .int .i64 ((l.length + k : Nat) : Int) ∧ Mod no w wr ∧ ∃ cs : List Value, Blk wr g 5 cs.toArray ∧ cs.length = l.length + 70 ∧ (∀ j, j < l.length → cs[j]? = (bvs l)[j]?) ∧ ∀ j, l.length ≤ j → j < l.length + k → cs[j]? = some (.int .u8 165)
set_option maxRecDepth 100000 in
set_option maxHeartbeats 1000000 in
theorem copied_l {w : World} {A : Option Addr} {c : Nat} {l : List UInt8} (hr : Rds w 1 A l.length (bvs l)) (hl : l.length ≤ 1048576) :
    Calls Try.prog 6 #[.slice A l.length c] w fun e w' => ∃ g, e = .returned (.slice (some ⟨g, 0, none⟩) l.length (l.length + 70)) ∧ Cop w' g l ∧ w.heap.size ≤ g ∧ Mod no w w' := by
  have HR := Lib.hid (And.intro hr hl)
  have hw70 : wrap64 ((l.length : Int) + 70) = ((l.length + 70 : Nat) : Int) := by rw [IntWalk.wrap64_in _ (by omega)]; omega
  obtain ⟨i0, hi, hz0, hz1, hz2⟩ := info_parts u8_info
  have HI0 := Lib.hid (And.intro hi (And.intro hz0 (And.intro hz1 hz2)))
  clear hr hl hi hz0 hz1 hz2
  go_enter Try.func6, Try.ntmps6
  go_wp2_with (first
    | (at_make
       refine wpList_make_full _ rfl (.tmp 8) (.tmp 8) 32 rfl 0 5 i0 (.int .u8 0) 1 Try.underlying32 HI0.out.1 HI0.out.2.1 HI0.out.2.2.1 .i64 .i64 (wrap64 ((l.length : Int) + 70)) (wrap64 ((l.length : Int) + 70)) (l.length + 70) rfl rfl hw70 hw70 ?_ ?_ (Nat.zero_le _) ?_
       · rw [HI0.out.2.2.2]; have := HR.out.2; omega
       · have := HR.out.2; simp only [maxLen]; omega
       intro w1 hown hg1
       have hb1 := own_blk hown
       rw [made_u8] at hb1
       have hm1 : Mod no w w1 := Mod.of_grown hg1 (fun _ _ e => by cases e)
       have H1 := Lib.hid (And.intro hb1 hm1)
       clear hown hg1 hb1 hm1))
  obtain ⟨g, hg⟩ : ∃ g, g = w.heap.size := ⟨_, rfl⟩
  rw [← hg] at H1 ⊢
  have HG := Lib.hid hg
  clear hg HI0
  go_loopw [4] (CI1 w g l) (fun i _ => l.length - (intOf i).toNat)
  case atStart => exact ⟨0, Nat.zero_le _, rfl, H1.out.2, _, H1.out.1, by simp, fun j hj => absurd hj (by omega)⟩
  case round =>
    clear H1
    obtain ⟨k, hk, rfl, M, cs, hb, hcl, hcs⟩ := hrel
    have hll := HR.out.2
    by_cases hkl : k < l.length
    · obtain ⟨ad, rfl, hc⟩ := HR.out.1.2 (by omega)
      obtain ⟨z, hz⟩ : ∃ z : Int, (bvs l)[k]? = some (.int .u8 z) := ⟨_, bvs_get l k hkl⟩
      have hsrc := hc k _ hz
      have ck := (M.cell (cell_lt hsrc) (fun c => c)).trans hsrc
      obtain ⟨old, hold⟩ : ∃ old, cs[k]? = some old := ⟨_, List.getElem?_eq_getElem (by omega)⟩
      have cg : wr.cell? ⟨g, k, none⟩ = some old := by rw [hb.cell, List.getElem?_toArray]; exact hold
      have fg := hb.free k
      have hj1 : (k : Int) < (l.length : Int) := by omega
      have hj0 : (0 : Int) ≤ (k : Int) := by omega
      have hj2 : (k : Int) < ((l.length + 70 : Nat) : Int) := by omega
      have hj3 : k < l.length + 70 := by omega
      have hw64 : wrap64 ((k : Int) + 1) = (k : Int) + 1 := IntWalk.wrap64_in _ (by omega)
      have hp := hb.put k (.int .u8 z)
      rw [List.setIfInBounds_toArray] at hp
      have hm : Mod no w (wr.setCell ⟨g, k, none⟩ (.int .u8 z)) := M.set (p := ⟨g, k, none⟩) (fun h => absurd h (by show ¬ g < _; rw [HG.out]; exact Nat.lt_irrefl _)) _
      have H2 := Lib.hid (And.intro hm (And.intro hp (show (cs.set k (.int .u8 z)).length = l.length + 70 ∧ ∀ j, j < k + 1 → (cs.set k (.int .u8 z))[j]? = (bvs l)[j]? from ⟨by rw [List.length_set]; exact hcl, fun j hj => by
        by_cases e : k = j
        · subst e
          rw [List.getElem?_set_self (by omega), hz]
        · rw [List.getElem?_set_ne e]; exact hcs j (by omega)⟩)))
      have HJ := Lib.hid (show k + 1 ≤ l.length by omega)
      clear hk M hb hcl hcs hold hsrc hc hp hm hll hkl hz
      go_wp2_with fail
      go_roundw
      case rel => exact ⟨k + 1, HJ.out, by go_num, H2.out.1, _, H2.out.2⟩
      case measure =>
        try rw [hw64]
        clear hw64
        have := HJ.out
        show l.length - ((k : Int) + 1).toNat < l.length - ((k : Int)).toNat
        omega
    · obtain rfl : k = l.length := by omega
      have hj1 : ¬ (l.length : Int) < (l.length : Int) := by omega
      have H2 := Lib.hid (And.intro M (And.intro hb (And.intro hcl hcs)))
      clear hk hkl M hb hcl hcs hll
      go_wp2_with fail
      go_loopw [5] (CI2 w g l) (fun i _ => l.length + 70 - (intOf i).toNat)
      case atStart => exact ⟨0, Nat.zero_le _, rfl, H2.out.1, _, H2.out.2.1, H2.out.2.2.1, H2.out.2.2.2, fun j h1 h2 => absurd h2 (by omega)⟩
      case round =>
        clear H2
        obtain ⟨k, hk, rfl, M, cs, hb, hcl, hcs, hct⟩ := hrel
        have hll := HR.out.2
        by_cases hkl : k < 70
        · obtain ⟨q, hq⟩ : ∃ q, q = l.length + k := ⟨_, rfl⟩
          rw [← hq]
          obtain ⟨old, hold⟩ : ∃ old, cs[q]? = some old := ⟨_, List.getElem?_eq_getElem (by omega)⟩
          have cg : wr.cell? ⟨g, q, none⟩ = some old := by rw [hb.cell, List.getElem?_toArray]; exact hold
          have fg := hb.free q
          have hj0 : (0 : Int) ≤ (q : Int) := by omega
          have hj2 : (q : Int) < ((l.length + 70 : Nat) : Int) := by omega
          have hj3 : q < l.length + 70 := by omega
          have hw64 : wrap64 ((q : Int) + 1) = (q : Int) + 1 := IntWalk.wrap64_in _ (by omega)
          have hp := hb.put q (.int .u8 165)
          rw [List.setIfInBounds_toArray] at hp
          have hm : Mod no w (wr.setCell ⟨g, q, none⟩ (.int .u8 165)) := M.set (p := ⟨g, q, none⟩) (fun h => absurd h (by show ¬ g < _; rw [HG.out]; exact Nat.lt_irrefl _)) _
          have H2 := Lib.hid (And.intro hm (And.intro hp (show (cs.set q (.int .u8 165)).length = l.length + 70 ∧ (∀ j, j < l.length → (cs.set q (.int .u8 165))[j]? = (bvs l)[j]?) ∧ ∀ j, l.length ≤ j → j < l.length + (k + 1) → (cs.set q (.int .u8 165))[j]? = some (.int .u8 165) from ⟨by rw [List.length_set]; exact hcl, fun j hj => by
            rw [List.getElem?_set_ne (by omega)]; exact hcs j hj, fun j h1 h2 => by
            by_cases e : q = j
            · subst e
              rw [List.getElem?_set_self (by omega)]
            · rw [List.getElem?_set_ne e]; exact hct j h1 (by omega)⟩)))
          have HJ := Lib.hid (show k + 1 ≤ 70 ∧ q = l.length + k by omega)
          clear hk M hb hcl hcs hct hold hp hm hll hkl hq
          go_wp2_with fail
          go_roundw
          case rel => exact ⟨k + 1, HJ.out.1, by rw [hw64]; have := HJ.out.2; congr 1; omega, H2.out.1, _, H2.out.2⟩
          case measure =>
            try rw [hw64]
            clear hw64
            have := HJ.out
            show l.length + 70 - ((q : Int) + 1).toNat < l.length + 70 - ((q : Int)).toNat
            omega
        · obtain rfl : k = 70 := by omega
          have hj1 : ¬ ((l.length + 70 : Nat) : Int) < ((l.length + 70 : Nat) : Int) := by omega
          have hs1 : l.length ≤ l.length + 70 := by omega
          have hs2 : (l.length : Int) ≤ ((l.length + 70 : Nat) : Int) := by omega
          have hs0 : (0 : Int) ≤ (l.length : Int) := by omega
          have H2 := Lib.hid (And.intro M (show Cop wr g l from ⟨cs, hb, hcl, hcs, hct⟩))
          clear hk hkl M hb hcl hcs hct hll
          go_wp2_with fail
          go_ret
          exact ⟨g, rfl, H2.out.2, by rw [HG.out]; exact Nat.le_refl _, H2.out.1⟩

set_option maxRecDepth 100000 in
set_option maxHeartbeats 1000000 in
theorem clean_l {w : World} {g : Nat} {l : List UInt8} (h : Cop w g l) (hl : l.length ≤ 1048576) : Calls Try.prog 26 #[.slice (some ⟨g, 0, none⟩) l.length (l.length + 70)] w fun e w' => e = .returned (.bool true) ∧ w = w' := by
  have H0 := Lib.hid (And.intro h hl)
  have hw70 : wrap64 ((l.length : Int) + 70) = ((l.length + 70 : Nat) : Int) := by rw [IntWalk.wrap64_in _ (by omega)]; omega
  have hs2 : ((l.length + 70 : Nat) : Int) ≤ ((l.length + 70 : Nat) : Int) := by omega
  have hs0 : (0 : Int) ≤ ((l.length + 70 : Nat) : Int) := by omega
  clear h hl
  go_enter Try.func26, Try.ntmps26
  go_wp2_with fail
  try simp only [hw70, Int.toNat_natCast, Nat.sub_zero]
  go_loopw [4] (fun (i : Value) (wr : World) => ∃ k : Nat, k ≤ 70 ∧ i = .int .i64 ((l.length + k : Nat) : Int) ∧ wr = w) (fun i _ => l.length + 70 - (intOf i).toNat)
  case atStart => exact ⟨0, by omega, rfl, rfl⟩
  case round =>
    obtain ⟨k, hk, rfl, rfl⟩ := hrel
    by_cases hk7 : k < 70
    · obtain ⟨cs, hb, hcl, hcs, hct⟩ := id H0.out.1
      have hll := H0.out.2
      obtain ⟨q, hq⟩ : ∃ q, q = l.length + k := ⟨_, rfl⟩
      rw [← hq]
      have cg : wr.cell? ⟨g, q, none⟩ = some (.int .u8 165) := by rw [hb.cell, List.getElem?_toArray]; exact hct q (by omega) (by omega)
      have hj0 : (0 : Int) ≤ (q : Int) := by omega
      have hj2 : (q : Int) < ((l.length + 70 : Nat) : Int) := by omega
      have hj3 : q < l.length + 70 := by omega
      have hw64 : wrap64 ((q : Int) + 1) = (q : Int) + 1 := IntWalk.wrap64_in _ (by omega)
      have HJ := Lib.hid (show k + 1 ≤ 70 ∧ q = l.length + k by omega)
      clear hk hk7 hb hcl hcs hct hll hq
      go_wp2_with fail
      go_roundw
      case rel => exact ⟨k + 1, HJ.out.1, by rw [hw64]; have := HJ.out.2; congr 1; omega, trivial⟩
      case measure =>
        try rw [hw64]
        clear hw64
        have := HJ.out
        show l.length + 70 - ((q : Int) + 1).toNat < l.length + 70 - ((q : Int)).toNat
        omega
    · obtain rfl : k = 70 := by omega
      have hj1 : ¬ ((l.length + 70 : Nat) : Int) < ((l.length + 70 : Nat) : Int) := by omega
      clear hk hk7
      go_wp2_with fail
      go_ret
      exact ⟨rfl, rfl⟩

theorem nums_bytes (l : List UInt8) : strOfNums (l.map fun b => (b.toNat : Int)) = ⟨l.toArray⟩ := by
  unfold strOfNums
  congr 1
  rw [List.map_map]
  have : (((fun n : Int => UInt8.ofNat n.toNat) ∘ fun b : UInt8 => (b.toNat : Int))) = id := by
    funext b; simp
  rw [this, List.map_id]
/-- Bytes that can be read, wherever they lie. -/
def RdC (w : World) (A : Option Addr) (l : List UInt8) : Prop := l ≠ [] → ∃ g o, A = some ⟨g, o, none⟩ ∧ ∀ i, i < l.length → w.cell? ⟨g, o + i, none⟩ = (bvs l)[i]?
theorem RdC.nil (w : World) (A : Option Addr) : RdC w A [] := fun h => absurd rfl h
theorem RdC.mod_no {w w' : World} {A : Option Addr} {l : List UInt8} (h : RdC w A l) (hm : Mod no w w') : RdC w' A l := fun hl => by
  obtain ⟨g, o, e, hc⟩ := h hl
  refine ⟨g, o, e, fun i hi => ?_⟩
  have h1 := hc i hi
  rw [bvs_get l i hi] at h1 ⊢
  exact (hm.cell (cell_lt h1) (fun c => c)).trans h1
theorem RdC.rds {w : World} {A : Option Addr} {l : List UInt8} (h : RdC w A l) : Rds w 1 A l.length (bvs l) := by
  refine ⟨by simp [bvs], fun hp => ?_⟩
  obtain ⟨g, o, e, hc⟩ := h (List.length_pos_iff.1 hp)
  refine ⟨_, e, fun j u hu => ?_⟩
  rw [add_plain]
  have hj : j < l.length := by
    have := (List.getElem?_eq_some_iff.1 hu).1
    simpa [bvs] using this
  rw [hc j hj]; exact hu
theorem Cop.rdc {w : World} {g : Nat} {l : List UInt8} (h : Cop w g l) : RdC w (some ⟨g, 0, none⟩) l := fun hl => by
  obtain ⟨cs, hb, h1, h2, h3⟩ := h
  refine ⟨g, 0, rfl, fun i hi => ?_⟩
  rw [hb.cell, Nat.zero_add, List.getElem?_toArray]
  exact h2 i hi
/-- 'string(b)'. -/
theorem conv_string {w : World} {A : Option Addr} {l : List UInt8} (h : RdC w A l) (n c : Nat) (hn : n = l.length) :
    (convert 32 9 (.slice A n c)).run Try.prog w = .ok (.string ⟨l.toArray⟩) w := by
  subst hn
  by_cases hl : l = []
  · subst hl
    rcases A with _ | ad
    · exact run_convert_bytes_nil w _ _ Try.underlying32 Try.underlying5 _ _ _ Try.underlying9
    · rw [run_convert_bytes_string w _ _ _ _ _ _ Try.underlying32 Try.underlying5 Try.underlying9]
      have := run_bytesToString (P := Try.prog) w ad 0 c [] (by simp [loadCells, loadCellsFrom])
      exact this
  · obtain ⟨g, o, rfl, hcs⟩ := h hl
    have := run_convert_bytes_arg (P := Try.prog) w _ _ Try.underlying32 Try.underlying5 g o l.length c (l.map fun b => (b.toNat : Int)) (by simp) (by
      intro i hi
      rw [hcs i hi, bvs_get l i hi]
      simp [List.getD, List.getElem?_eq_getElem hi]) _ Try.underlying9
    rw [this, nums_bytes]
theorem wpList_conv {ops : Array Oper} {rest : List Oper} {o : Oper} {a : Act} {w : World} {Q : Exit → Act → World → Prop} (hgd : o.guard = none) (x : Operand) (ho : o.op = .convert 32 9 x) (A : Option Addr) (n c : Nat) (l : List UInt8) (hx : a.eval x = .slice A n c) (h : RdC w A l) (hn : n = l.length)
    (hK : wpList Try.prog ops Q rest (a.put o.dst (.string ⟨l.toArray⟩)) w) : wpList Try.prog ops Q (o :: rest) a w :=
  wpList_plain hgd fun K hK' => by
    unfold Oper.wp execOp
    simp only [ho, Sem.run_bind, Sem.run_pure, Result.andThen_ok, hx, conv_string h n c hn]
    exact hK' _ _ hK

end Go.Proofs.Ytkfcpnijhgaejaa.AN
