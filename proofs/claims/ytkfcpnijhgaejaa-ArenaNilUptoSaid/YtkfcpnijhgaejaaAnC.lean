/- The law's asked, of a nil arena or a zero one: what holds, and its end (printed by arenanil3.py). -/
import Derived.Test.YtkfcpnijhgaejaaAnB
import Derived.Deep.MidRow
namespace Go.Proofs.Ytkfcpnijhgaejaa.AN
open Go.RowKit Mem
set_option linter.unusedVariables false
set_option linter.unusedSimpArgs false

/-- The answer that holds just an error. -/
def ansE (e : Int) : List Value := [.int .i64 e, .int .i64 0, .int .i64 0, .string ⟨#[]⟩, .int .i64 0, .int .i64 0, .string ⟨#[]⟩]
structure Aa (w0 w : World) (v : Value) (A : Option Addr) (l : List UInt8) (g : Nat) (m ans : List Value) : Prop where
  x : Blk w w0.heap.size 34 m.toArray
  o4 : Blk w (w0.heap.size + 1) 37 (ansE 0).toArray
  o6 : Blk w (w0.heap.size + 2) 37 ans.toArray
  c : Cop w g l
  d : RdC w A l
  gg : w0.heap.size + 3 ≤ g
  z : Az w v
  md : Mod no w0 w
section
variable {w0 w w' : World} {v : Value} {A : Option Addr} {l : List UInt8} {g : Nat} {m ans : List Value}
theorem Aa.mod_no (h : Aa w0 w v A l g m ans) (hm : Mod no w w') : Aa w0 w' v A l g m ans :=
  ⟨h.x.mod hm (fun c => c), h.o4.mod hm (fun c => c), h.o6.mod hm (fun c => c), h.c.mod hm (fun c => c), h.d.mod_no hm, h.gg, h.z.mod_no hm, h.md.and_then hm⟩
theorem RdC.far {a : Addr} {u : Value} (h : RdC w A l) (hn : ∀ b o, A = some ⟨b, o, none⟩ → l ≠ [] → b ≠ a.block) : RdC (w.setCell a u) A l := fun hl => by
  obtain ⟨b, o, e, hc⟩ := h hl
  refine ⟨b, o, e, fun i hi => ?_⟩
  have h1 := hc i hi
  rw [bvs_get l i hi] at h1 ⊢
  have hm := (Mod.refl (one a.block) w).set (p := a) (fun _ => rfl) u
  exact (hm.cell (cell_lt h1) (fun c => hn b o e hl c)).trans h1
theorem RdC.lt (h : RdC w A l) {b o : Nat} (e : A = some ⟨b, o, none⟩) (hl : l ≠ []) : b < w.heap.size := by
  obtain ⟨b', o', e', hc⟩ := h hl
  have h1 := hc 0 (List.length_pos_iff.2 hl)
  rw [bvs_get l 0 (List.length_pos_iff.2 hl)] at h1
  rw [e] at e'
  injection e' with e'
  injection e' with e1 e2
  have := cell_lt h1
  rw [e1]; exact this
/-- What lay there at the call's begin lies below the call's own memory. -/
structure Base (w0 : World) (v : Value) (A : Option Addr) (l : List UInt8) : Prop where
  d : RdC w0 A l
  z : Az w0 v
theorem Az.lt (h : Az w v) {z : Nat} (e : v = .pointer (some ⟨z, 0, none⟩)) : z < w.heap.size := by
  rcases h with h | ⟨z', e', hb⟩
  · rw [h] at e; cases e
  · rw [e] at e'
    injection e' with e'
    injection e' with e'
    injection e' with e'
    subst e'
    exact hb.lt
theorem Aa.set (h : Aa w0 w v A l g m ans) (hb : Base w0 v A l) (j : Nat) (u : Value) : Aa w0 (w.setCell ⟨w0.heap.size + 2, j, none⟩ u) v A l g m (ans.set j u) := by
  have h6 := h.o6.put j u
  rw [List.setIfInBounds_toArray] at h6
  have hm : Mod (one (w0.heap.size + 2)) w (w.setCell ⟨w0.heap.size + 2, j, none⟩ u) := (Mod.refl (one (w0.heap.size + 2)) w).set (p := ⟨w0.heap.size + 2, j, none⟩) (fun _ => rfl) u
  have hgg := h.gg
  refine ⟨h.x.mod hm (fun c => ?_), h.o4.mod hm (fun c => ?_), h6, h.c.mod hm (fun c => ?_), h.d.far (fun b o e hl => ?_), h.gg, h.z.mod hm (fun z e c => ?_), h.md.trans hm (fun b hb c => ?_)⟩
  · have c : w0.heap.size = w0.heap.size + 2 := c; omega
  · have c : w0.heap.size + 1 = w0.heap.size + 2 := c; omega
  · have c : g = w0.heap.size + 2 := c; omega
  · have := hb.d.lt e hl; show b ≠ w0.heap.size + 2; omega
  · have c : z = w0.heap.size + 2 := c; have := hb.z.lt e; omega
  · have c : b = w0.heap.size + 2 := c; omega
end
theorem blk_sets {t : TypeId} (b : Nat) : ∀ (vs : List Value) (o : Nat) (Z : List Value) (w : World), Blk w b t Z.toArray → o + vs.length ≤ Z.length → Blk (w.setCells b o vs) b t (Z.take o ++ vs ++ Z.drop (o + vs.length)).toArray
  | [], o, Z, w, h, hz => by
    simp only [List.append_nil, List.length_nil, Nat.add_zero, List.take_append_drop]
    exact h
  | v :: vs, o, Z, w, h, hz => by
    have h1 := h.put o v
    rw [List.setIfInBounds_toArray] at h1
    have ih := blk_sets b vs (o + 1) (Z.set o v) (w.setCell ⟨b, o, none⟩ v) h1 (by simp at hz ⊢; omega)
    have ho : o < Z.length := by simp at hz; omega
    have e : (Z.set o v).take (o + 1) ++ vs ++ (Z.set o v).drop (o + 1 + vs.length) = Z.take o ++ (v :: vs) ++ Z.drop (o + (v :: vs).length) := by
      rw [List.take_add_one, List.take_set_of_le (by omega), List.getElem?_set_self ho, List.drop_set_of_lt (by omega)]
      simp [Nat.add_assoc, Nat.add_comm 1]
    rw [e] at ih
    exact ih

theorem mod_setCells {S : Nat → Prop} {w : World} {b : Nat} (hS : S b) : ∀ (vs : List Value) (o : Nat) (w' : World), Mod S w w' → Mod S w (w'.setCells b o vs)
  | [], _, _, h => h
  | v :: vs, o, w', h => mod_setCells hS vs (o + 1) _ (h.set (p := ⟨b, o, none⟩) (fun _ => hS) v)
theorem ans_info {x : List Value} (h : x.length = 7) : (Try.prog.info? 37).map (·.size) = some x.length := by rw [h]; kernel_rfl
theorem ans_done {w9 : World} {q : Nat} {x : List Value} {v : Value} {c t : Tmp} (hx : x.length = 7) (hr9 : Blk w9 q 37 x.toArray) (a : Act) (h4 : a.tmps[c]? = some (.pointer (some ⟨q, 0, none⟩))) (h5 : a.tmps[t]? = some v) (hd : a.defers = []) (fn : Func) (hr : fn.results = #[.cell c 37, .tmp t]) (R : Ending → World → Prop) (h : R (.returned (.tuple #[.agg x.toArray, v])) w9) :
    bodyPost Try.prog fn R Exit.ret a w9 := by
  have hload := run_loadVar_mid (P := Try.prog) w9 q 0 37 x _ (fun j u hu => by rw [hr9.cell, Nat.zero_add, List.getElem?_toArray]; exact hu) Try.underlying37 rfl (ans_info hx)
  refine bodyPost_ret (v := .tuple #[.agg x.toArray, v]) ?_ hd h
  simp [results, hr, h4, h5, asAddr, hload]
theorem ansE_set {w : World} {b : Nat} {e0 e : Int} (h : Blk w b 37 (ansE e0).toArray) : Blk (w.setCells b 0 (ansE e)) b 37 (ansE e).toArray := by
  have hp := blk_sets b (ansE e) 0 (ansE e0) w h (by simp [ansE])
  exact hp
def sR : Code → Code | .seq _ b => b | c => c
def sL : Code → Code | .seq a _ => a | c => c
noncomputable def askC : Code := Try.f4.body.getD .skip
noncomputable def a1C : Code := sR askC
noncomputable def a2C : Code := sR a1C
noncomputable def a3C : Code := sR a2C
noncomputable def a4C : Code := sR a3C
noncomputable def a5C : Code := sR a4C
def XI (w : World) (g n : Nat) (i : Value) (wr : World) : Prop := ∃ k : Nat, k ≤ n ∧ i = .int .i64 (k : Int) ∧ Mod (one g) w wr ∧ ∃ cs : List Value, Blk wr g 5 cs.toArray ∧ cs.length = n + 70 ∧ ∀ j, j < n → ∃ z : Int, cs[j]? = some (.int .u8 z)

set_option maxRecDepth 100000 in
set_option maxHeartbeats 1000000 in
theorem atail {w0 w : World} {v : Value} {A : Option Addr} {l : List UInt8} {g c : Nat} {kd p q n e : Int} {lv : Bool} (h : Aa w0 w v A l g [.int .i64 kd, .int .i64 p, .int .i64 q, .int .i64 n, .slice A l.length c, .bool lv] (ansE e)) (hl : l.length ≤ 1048576)
    (d0 d1 d2 d5 d8 d9 d10 d11 d12 d13 d14 d15 d16 d17 d18 d19 d20 d21 d22 d23 d24 d25 d26 d27 d28 d29 d30 d31 d32 d33 d34 d35 d36 d37 d38 d39 d40 d41 d42 d43 d44 d45 d46 d47 d48 d49 d50 d51 d52 d53 d54 d55 d56 d57 d58 d59 d60 d61 d62 d63 d64 d65 d66 d67 d68 d69 d70 d71 d72 d73 d74 d75 d76 d77 d78 d79 d80 d81 d82 d83 d84 d85 d86 d87 d88 d89 d90 d91 d92 d93 d94 d95 d96 d97 d98 d99 d100 d101 d102 d103 d104 d105 d106 d107 d108 d109 d110 d111 d112 d113 d114 d115 d116 d117 d118 d119 d120 d121 d122 d123 d124 d125 d126 d127 d128 d129 d130 d131 d132 d133 d134 d135 d136 d137 d138 d139 d140 d141 d142 d143 d144 d145 d146 d147 d148 d149 d150 d151 d152 d153 d154 d155 d156 d157 d158 d159 d160 d161 d162 d163 d164 d165 d166 d167 d168 d169 d170 d171 d172 d173 d174 d175 d176 d177 d178 d179 d180 d181 d182 d183 d184 d185 d186 d187 d188 d189 d190 d191 d192 d193 d194 d195 d196 d197 d198 d199 d200 d201 d202 d203 d204 d205 d206 : Value) :
    Code.wp Try.prog a4C (bodyPost Try.prog Try.f4 fun r w' => r = .returned (.tuple #[.agg (ansE e).toArray, .bool true]) ∧ Mod no w0 w') ⟨List.toArray (d0 :: d1 :: d2 :: (.pointer (some ⟨w0.heap.size, 0, none⟩)) :: (.pointer (some ⟨w0.heap.size + 1, 0, none⟩)) :: d5 :: (.pointer (some ⟨w0.heap.size + 2, 0, none⟩)) :: (.slice (some ⟨g, 0, none⟩) l.length (l.length + 70)) :: d8 :: d9 :: d10 :: d11 :: d12 :: d13 :: d14 :: d15 :: d16 :: d17 :: d18 :: d19 :: d20 :: d21 :: d22 :: d23 :: d24 :: d25 :: d26 :: d27 :: d28 :: d29 :: d30 :: d31 :: d32 :: d33 :: d34 :: d35 :: d36 :: d37 :: d38 :: d39 :: d40 :: d41 :: d42 :: d43 :: d44 :: d45 :: d46 :: d47 :: d48 :: d49 :: d50 :: d51 :: d52 :: d53 :: d54 :: d55 :: d56 :: d57 :: d58 :: d59 :: d60 :: d61 :: d62 :: d63 :: d64 :: d65 :: d66 :: d67 :: d68 :: d69 :: d70 :: d71 :: d72 :: d73 :: d74 :: d75 :: d76 :: d77 :: d78 :: d79 :: d80 :: d81 :: d82 :: d83 :: d84 :: d85 :: d86 :: d87 :: d88 :: d89 :: d90 :: d91 :: d92 :: d93 :: d94 :: d95 :: d96 :: d97 :: d98 :: d99 :: d100 :: d101 :: d102 :: d103 :: d104 :: d105 :: d106 :: d107 :: d108 :: d109 :: d110 :: d111 :: d112 :: d113 :: d114 :: d115 :: d116 :: d117 :: d118 :: d119 :: d120 :: d121 :: d122 :: d123 :: d124 :: d125 :: d126 :: d127 :: d128 :: d129 :: d130 :: d131 :: d132 :: d133 :: d134 :: d135 :: d136 :: d137 :: d138 :: d139 :: d140 :: d141 :: d142 :: d143 :: d144 :: d145 :: d146 :: d147 :: d148 :: d149 :: d150 :: d151 :: d152 :: d153 :: d154 :: d155 :: d156 :: d157 :: d158 :: d159 :: d160 :: d161 :: d162 :: d163 :: d164 :: d165 :: d166 :: d167 :: d168 :: d169 :: d170 :: d171 :: d172 :: d173 :: d174 :: d175 :: d176 :: d177 :: d178 :: d179 :: d180 :: d181 :: d182 :: d183 :: d184 :: d185 :: d186 :: d187 :: d188 :: d189 :: d190 :: d191 :: d192 :: d193 :: d194 :: d195 :: d196 :: d197 :: d198 :: d199 :: d200 :: d201 :: d202 :: d203 :: d204 :: d205 :: d206 :: []), []⟩ w := by
  have H0 := Lib.hid (And.intro h hl)
  have c4 := h.x.cell 4
  simp at c4
  have hgg := h.gg
  clear h hl
  show Code.wp Try.prog (Code.seq (sL a4C) a5C) _ _ _
  refine wp_seq_k fun K0 hK0 => ?_
  have HK0 := Lib.hid hK0
  clear hK0
  conv => arg 2; whnf
  go_wp2_with (first
    | (refine wpList_conv rfl (.tmp 180) rfl (some ⟨g, 0, none⟩) l.length (l.length + 70) l rfl H0.out.1.c.rdc rfl ?_)
    | (refine wpList_conv rfl (.tmp 183) rfl A l.length c l rfl H0.out.1.d rfl ?_))
  refine (clean_l H0.out.1.c H0.out.2).mono ?_
  rintro e2 w2 ⟨rfl, rfl⟩
  go_wp2_with fail
  refine HK0.out _ _ ?_
  clear HK0 c4
  conv => arg 2; whnf
  go_wp2_with fail
  go_loopw [13] (XI w g l.length) (fun i _ => l.length - (intOf i).toNat)
  case atStart =>
    obtain ⟨cs, hb, hcl, hcs, _⟩ := H0.out.1.c
    exact ⟨0, Nat.zero_le _, rfl, Mod.refl _ _, cs, hb, hcl, fun j hj => ⟨_, (hcs j hj).trans (bvs_get l j hj)⟩⟩
  case round =>
    obtain ⟨k, hk, rfl, M, cs, hb, hcl, hcs⟩ := hrel
    by_cases hkl : k < l.length
    · obtain ⟨z, hz⟩ := hcs k hkl
      have hll := H0.out.2
      have cg : wr.cell? ⟨g, k, none⟩ = some (.int .u8 z) := by rw [hb.cell, List.getElem?_toArray]; exact hz
      have fg := hb.free k
      have hj1 : (k : Int) < (l.length : Int) := by omega
      have hj0 : (0 : Int) ≤ (k : Int) := by omega
      have hw64 : wrap64 ((k : Int) + 1) = (k : Int) + 1 := IntWalk.wrap64_in _ (by omega)
      have HX := Lib.hid (show ∀ u : Int, XI w g l.length (.int .i64 ((k : Int) + 1)) (wr.setCell ⟨g, k, none⟩ (.int .u8 u)) from fun u => by
        have hp := hb.put k (.int .u8 u)
        rw [List.setIfInBounds_toArray] at hp
        refine ⟨k + 1, by omega, by push_cast; rfl, M.set (p := ⟨g, k, none⟩) (fun _ => rfl) _, _, hp, by rw [List.length_set]; exact hcl, fun j hj => ?_⟩
        by_cases ee : k = j
        · subst ee
          exact ⟨u, by rw [List.getElem?_set_self (by omega)]⟩
        · obtain ⟨z', hz'⟩ := hcs j hj
          exact ⟨z', by rw [List.getElem?_set_ne ee]; exact hz'⟩)
      have HJ := Lib.hid (show k + 1 ≤ l.length by omega)
      clear hk M hb hcl hcs hz hll
      go_wp2_with fail
      go_roundw
      case rel =>
        rw [hw64]
        exact HX.out _
      case measure =>
        try rw [hw64]
        clear hw64
        have := HJ.out
        show l.length - ((k : Int) + 1).toNat < l.length - ((k : Int)).toNat
        omega
    · obtain rfl : k = l.length := by omega
      have hj1 : ¬ (l.length : Int) < (l.length : Int) := by omega
      have h6 := H0.out.1.o6.mod M (fun c => by have c : w0.heap.size + 2 = g := c; omega)
      have h4 := H0.out.1.o4.mod M (fun c => by have c : w0.heap.size + 1 = g := c; omega)
      have hmd : Mod no w0 wr := H0.out.1.md.trans M (fun b hb c => by have c : b = g := c; omega)
      have H2 := Lib.hid (And.intro h6 (And.intro h4 hmd))
      have p0 := h6.cell 0
      have p1 := h6.cell 1
      have p2 := h6.cell 2
      have p3 := h6.cell 3
      have p4 := h6.cell 4
      have p5 := h6.cell 5
      have p6 := h6.cell 6
      have q0 := h4.cell 0
      have r0 := h4.free 0
      have q1 := h4.cell 1
      have r1 := h4.free 1
      have q2 := h4.cell 2
      have r2 := h4.free 2
      have q3 := h4.cell 3
      have r3 := h4.free 3
      have q4 := h4.cell 4
      have r4 := h4.free 4
      have q5 := h4.cell 5
      have r5 := h4.free 5
      have q6 := h4.cell 6
      have r6 := h4.free 6
      simp [ansE] at p0 q0 p1 q1 p2 q2 p3 q3 p4 q4 p5 q5 p6 q6
      clear hk hkl M hb hcl hcs h6 h4 hmd
      go_wp2_with fail
      have hb9 := ansE_set (e := e) H2.out.2.1
      have hm9 : Mod no w0 (wr.setCells (w0.heap.size + 1) 0 (ansE e)) := H2.out.2.2.trans (mod_setCells (S := one (w0.heap.size + 1)) (show one (w0.heap.size + 1) (w0.heap.size + 1) from rfl) (ansE e) 0 _ (Mod.refl _ _)) (fun b hb c => by have c : b = w0.heap.size + 1 := c; omega)
      exact ans_done (x := ansE e) rfl hb9 _ rfl rfl rfl _ Try.results4 _ ⟨rfl, hm9⟩

end Go.Proofs.Ytkfcpnijhgaejaa.AN
