/- IndexExact: the texts ExK of this seat, one behind the other. -/
import Derived.Test.YtknbehjhaaidoaaM31
/- The law IndexExact. -/
namespace Go.Proofs.Ytknbehjhaaidoaa.IX
open Go.RowKit Go.Shelf Mem HD TB
set_option linter.unusedVariables false
set_option linter.unusedSimpArgs false
def twoN (a b : Nat) : Nat → Nat
  | 0 => a
  | _ => b
def twoO (a b : Nat → Prop) : Nat → Nat → Prop
  | 0 => a
  | _ => b
theorem fresh_pp (w : World) (t : TypeId) (g : Nat → Nat) : Mod no w ((w.alloc (.cells #[.pointer none, .pointer none] t)).setCells w.heap.size 0 (pp g).toList) ∧ Blk ((w.alloc (.cells #[.pointer none, .pointer none] t)).setCells w.heap.size 0 (pp g).toList) w.heap.size t (pp g) :=
  ⟨mod_setCells (fun c => absurd c (Nat.lt_irrefl _)) _ _ _ ((Mod.refl no w).alloc _), blk_sets w.heap.size (pp g).toList 0 [.pointer none, .pointer none] _ (Blk.new w t #[.pointer none, .pointer none]) (Nat.le_refl 2)⟩
theorem pidx2_sizeG (g : Nat → Nat) : (Try.prog.info? 67).map (·.size) = some (pp g).size := by
  show _ = some 2
  kernel_rfl
theorem prefix2_sizeG (g : Nat → Nat) : (Try.prog.info? 70).map (·.size) = some (pp g).size := by
  show _ = some 2
  kernel_rfl
theorem pp_ones (g : Nat → Nat) : (pp g).all (·.oneCell') = true := by simp [pp, Value.oneCell']
theorem ex_init {w w1 w2 w3 w4 w5 w6 w7 : World} {g0 g1 r0 r1 hp hr : Nat} {P0 P1 : Nat → Nat} {Rs0 Rs1 : Nat → Nat → Prop} (m1 : Mod no w w1)
    (h0 : IxAt w2 g0 (fun k => w1.heap.size ≤ k ∧ k < w2.heap.size) (fun _ => t8) P0 Rs0) (m2 : Mod no w1 w2) (h1 : IxAt w3 g1 (fun k => w2.heap.size ≤ k ∧ k < w3.heap.size) (fun _ => t8) P1 Rs1) (m3 : Mod no w2 w3)
    (m4 : Mod no w3 w4) (hhp : hp = w3.heap.size) (bp : Blk w4 hp 67 (pp (twoN g0 g1)))
    (m5 : Mod no w4 w5) (hr0 : r0 = w4.heap.size) (b0 : Blk w5 r0 79 #[.slice none 0 0]) (m6 : Mod no w5 w6) (hr1 : r1 = w5.heap.size) (b1 : Blk w6 r1 79 #[.slice none 0 0])
    (m7 : Mod no w6 w7) (hhr : hr = w6.heap.size) (br : Blk w7 hr 70 (pp (twoN r0 r1))) :
    EX w hp hr w7.heap.size (twoO (fun x => (w1.heap.size ≤ x ∧ x < w2.heap.size) ∨ x = r0) (fun x => (w2.heap.size ≤ x ∧ x < w3.heap.size) ∨ x = r1)) (twoN g0 g1) (twoN r0 r1) (fun _ => .slice none 0 0) (fun _ => []) (fun _ => False) (.slice none 0 0) [] 0 0 w7 := by
  have s1 := m1.size; have s2 := m2.size; have s3 := m3.size; have s4 := m4.size; have s5 := m5.size; have s6 := m6.size; have s7 := m7.size
  have l1 := bp.lt; have l2 := b0.lt; have l3 := b1.lt; have l4 := br.lt
  have nn : ∀ {R : Nat → Prop} x, R x → ¬ no x := fun _ _ c => c
  have m27 : Mod no w2 w7 := ((((m3.and_then m4).and_then m5).and_then m6).and_then m7)
  have m37 : Mod no w3 w7 := (((m4.and_then m5).and_then m6).and_then m7)
  have q0 : Side w7 (fun x => (w1.heap.size ≤ x ∧ x < w2.heap.size) ∨ x = r0) g0 r0 (.slice none 0 0) [] := side_new (h0.mod m27 nn) (b0.mod (m6.and_then m7) (fun c => c)) (fun c => by have := c.2; omega) (fun x c => by have := c.2; omega)
  have q1 : Side w7 (fun x => (w2.heap.size ≤ x ∧ x < w3.heap.size) ∨ x = r1) g1 r1 (.slice none 0 0) [] := side_new (h1.mod m37 nn) (b1.mod m7 (fun c => c)) (fun c => by have := c.2; omega) (fun x c => by have := c.2; omega)
  refine ⟨bp.mod ((m5.and_then m6).and_then m7) (fun c => c), br, fun i hi => ?_, fun i j hi hj hne x => ?_, fun i x hi c => ?_, fun x c => c.elim, fun i hi b hb => (nomatch hb), KpRow.nil _ _, fun k hk => (nomatch hk), fun b hb => (nomatch hb), ⟨by omega, by omega, by omega, by omega⟩, (m1.and_then m2).and_then m27, Nat.le_refl _, fun i hi => Nat.zero_le _, Nat.zero_le _⟩
  · rcases i with _ | _ | i
    · exact q0
    · exact q1
    · omega
  · rcases i with _ | _ | i <;> rcases j with _ | _ | j <;> first | exact absurd rfl hne | omega | skip
    · exact fun c c' => by rcases c with c | c <;> rcases c' with c' | c' <;> omega
    · exact fun c c' => by rcases c with c | c <;> rcases c' with c' | c' <;> omega
  · rcases i with _ | _ | i
    · rcases c with c | c <;> exact ⟨by omega, by omega, by omega, fun e => (nomatch e)⟩
    · rcases c with c | c <;> exact ⟨by omega, by omega, by omega, fun e => (nomatch e)⟩
    · omega
set_option maxRecDepth 100000 in
set_option maxHeartbeats 20000000 in
theorem exact_law {w : World} {sv : Value} {ss : List Stp} (hS : SAt w sv ss) (hl : ss.length ≤ 1048576) : Calls Try.prog 6 #[sv] w fun e w' => e = .returned (.bool true) ∧ Mod no w w' := by
  have HS := Lib.hid (And.intro hS hl)
  clear hS hl
  go_enter Try.func6, Try.ntmps6
  go_upto_region 3 with (first
    | (go_at_call 26; refine (works_any _).mono ?_; rintro e w1 ⟨rfl, hm1⟩; have H1 := Lib.hid hm1; clear hm1))
  refine HD.wl_begin ?_
  refine HD.wl_callG (d := some 16) (fun v9 => ⟨List.toArray ((sv)::undef::(.bool false)::undef::undef::undef::undef::undef::undef::undef::undef::undef::undef::undef::(.bool true)::(.bool false)::(v9)::undef::undef::undef::undef::undef::undef::undef::undef::undef::undef::undef::undef::undef::undef::undef::undef::undef::undef::undef::undef::undef::undef::undef::undef::undef::undef::undef::undef::undef::undef::undef::undef::undef::undef::undef::undef::undef::undef::undef::undef::undef::undef::undef::undef::undef::undef::undef::undef::undef::undef::undef::undef::undef::undef::undef::undef::undef::undef::undef::undef::undef::undef::undef::undef::undef::undef::undef::undef::undef::undef::undef::undef::undef::undef::undef::undef::undef::undef::undef::undef::undef::undef::undef::undef::undef::undef::undef::undef::undef::undef::undef::undef::undef::undef::undef::undef::undef::undef::undef::undef::undef::undef::undef::undef::undef::undef::undef::undef::undef::undef::undef::undef::undef::undef::undef::undef::[]), []⟩) (by kernel_rfl) rfl (fun _ => by kernel_rfl) fun K hK => ?_
  refine op_c0 (fun _ _ => rfl) rfl (ixnew_any _) ?_
  rintro e w2 ⟨g0, P0, Rs0, rfl, hx, hm⟩
  have H2 := Lib.hid (And.intro hx hm)
  clear hx hm
  refine ⟨_, rfl, hK _ _ ?_⟩
  clear hK K
  refine HD.wl_callG (d := some 17) (fun v9 => ⟨List.toArray ((sv)::undef::(.bool false)::undef::undef::undef::undef::undef::undef::undef::undef::undef::undef::undef::(.bool true)::(.bool false)::(.pointer (some ⟨g0, 0, none⟩))::(v9)::undef::undef::undef::undef::undef::undef::undef::undef::undef::undef::undef::undef::undef::undef::undef::undef::undef::undef::undef::undef::undef::undef::undef::undef::undef::undef::undef::undef::undef::undef::undef::undef::undef::undef::undef::undef::undef::undef::undef::undef::undef::undef::undef::undef::undef::undef::undef::undef::undef::undef::undef::undef::undef::undef::undef::undef::undef::undef::undef::undef::undef::undef::undef::undef::undef::undef::undef::undef::undef::undef::undef::undef::undef::undef::undef::undef::undef::undef::undef::undef::undef::undef::undef::undef::undef::undef::undef::undef::undef::undef::undef::undef::undef::undef::undef::undef::undef::undef::undef::undef::undef::undef::undef::undef::undef::undef::undef::undef::undef::undef::undef::undef::undef::undef::undef::[]), []⟩) (by kernel_rfl) rfl (fun _ => by kernel_rfl) fun K hK => ?_
  refine op_c0 (fun _ _ => rfl) rfl (ixnew_any _) ?_
  rintro e w3 ⟨g1, P1, Rs1, rfl, hx, hm⟩
  have H3 := Lib.hid (And.intro hx hm)
  clear hx hm
  refine ⟨_, rfl, hK _ _ ?_⟩
  clear hK K
  refine HD.wl_takeF (d := some 18) (v := (.agg (pp (twoN g0 g1)))) (a' := ⟨List.toArray ((sv)::undef::(.bool false)::undef::undef::undef::undef::undef::undef::undef::undef::undef::undef::undef::(.bool true)::(.bool false)::(.pointer (some ⟨g0, 0, none⟩))::(.pointer (some ⟨g1, 0, none⟩))::(.agg (pp (twoN g0 g1)))::undef::undef::undef::undef::undef::undef::undef::undef::undef::undef::undef::undef::undef::undef::undef::undef::undef::undef::undef::undef::undef::undef::undef::undef::undef::undef::undef::undef::undef::undef::undef::undef::undef::undef::undef::undef::undef::undef::undef::undef::undef::undef::undef::undef::undef::undef::undef::undef::undef::undef::undef::undef::undef::undef::undef::undef::undef::undef::undef::undef::undef::undef::undef::undef::undef::undef::undef::undef::undef::undef::undef::undef::undef::undef::undef::undef::undef::undef::undef::undef::undef::undef::undef::undef::undef::undef::undef::undef::undef::undef::undef::undef::undef::undef::undef::undef::undef::undef::undef::undef::undef::undef::undef::undef::undef::undef::undef::undef::undef::undef::undef::undef::undef::undef::[]), []⟩) (by kernel_rfl) rfl (by kernel_rfl) (y_bpp rfl rfl rfl) ?_
  obtain ⟨hp, hh8⟩ : ∃ hp, hp = w3.heap.size := ⟨_, rfl⟩
  refine HD.wl_takeF (d := some 3) (v := (.pointer (some ⟨hp, 0, none⟩))) (a' := ⟨List.toArray ((sv)::undef::(.bool false)::(.pointer (some ⟨hp, 0, none⟩))::undef::undef::undef::undef::undef::undef::undef::undef::undef::undef::(.bool true)::(.bool false)::(.pointer (some ⟨g0, 0, none⟩))::(.pointer (some ⟨g1, 0, none⟩))::(.agg (pp (twoN g0 g1)))::undef::undef::undef::undef::undef::undef::undef::undef::undef::undef::undef::undef::undef::undef::undef::undef::undef::undef::undef::undef::undef::undef::undef::undef::undef::undef::undef::undef::undef::undef::undef::undef::undef::undef::undef::undef::undef::undef::undef::undef::undef::undef::undef::undef::undef::undef::undef::undef::undef::undef::undef::undef::undef::undef::undef::undef::undef::undef::undef::undef::undef::undef::undef::undef::undef::undef::undef::undef::undef::undef::undef::undef::undef::undef::undef::undef::undef::undef::undef::undef::undef::undef::undef::undef::undef::undef::undef::undef::undef::undef::undef::undef::undef::undef::undef::undef::undef::undef::undef::undef::undef::undef::undef::undef::undef::undef::undef::undef::undef::undef::undef::undef::undef::undef::[]), []⟩) (by kernel_rfl) rfl (by kernel_rfl) (by rw [hh8]; exact y_allocpp rfl) ?_
  refine HD.wl_storeF (a' := ⟨List.toArray ((sv)::undef::(.bool false)::(.pointer (some ⟨hp, 0, none⟩))::undef::undef::undef::undef::undef::undef::undef::undef::undef::undef::(.bool true)::(.bool false)::(.pointer (some ⟨g0, 0, none⟩))::(.pointer (some ⟨g1, 0, none⟩))::(.agg (pp (twoN g0 g1)))::undef::undef::undef::undef::undef::undef::undef::undef::undef::undef::undef::undef::undef::undef::undef::undef::undef::undef::undef::undef::undef::undef::undef::undef::undef::undef::undef::undef::undef::undef::undef::undef::undef::undef::undef::undef::undef::undef::undef::undef::undef::undef::undef::undef::undef::undef::undef::undef::undef::undef::undef::undef::undef::undef::undef::undef::undef::undef::undef::undef::undef::undef::undef::undef::undef::undef::undef::undef::undef::undef::undef::undef::undef::undef::undef::undef::undef::undef::undef::undef::undef::undef::undef::undef::undef::undef::undef::undef::undef::undef::undef::undef::undef::undef::undef::undef::undef::undef::undef::undef::undef::undef::undef::undef::undef::undef::undef::undef::undef::undef::undef::undef::undef::undef::[]), []⟩) rfl hp 0 (pp (twoN g0 g1)) (by kernel_rfl) rfl (by kernel_rfl) rfl rfl (blk_there (show Blk (w3.alloc (.cells #[.pointer none, .pointer none] 67)) hp 67 #[.pointer none, .pointer none] from by rw [hh8]; exact Blk.new _ _ _) 0 2 (by decide)) (pidx2_sizeG _) (pp_ones _) ?_
  have hF := fresh_pp w3 67 (twoN g0 g1)
  rw [← hh8] at hF
  obtain ⟨w4, hw8⟩ : ∃ w4, w4 = ((w3.alloc (.cells #[.pointer none, .pointer none] 67)).setCells hp 0 (pp (twoN g0 g1)).toList) := ⟨_, rfl⟩
  change HD.WL _ _ _ _ ((w3.alloc (.cells #[.pointer none, .pointer none] 67)).setCells hp 0 (pp (twoN g0 g1)).toList)
  rw [← hw8] at hF ⊢
  have H4 := Lib.hid (And.intro hF (show hp = w3.heap.size from hh8))
  clear hF hw8 hh8
  refine HD.wl_done ?_
  go_upto_region 4 with fail
  refine HD.wl_begin ?_
  obtain ⟨r0, hr9⟩ : ∃ r0, r0 = w4.heap.size := ⟨_, rfl⟩
  refine HD.wl_callF (d := some 19) (v := (.pointer (some ⟨r0, 0, none⟩))) (a' := ⟨List.toArray ((sv)::undef::(.bool false)::(.pointer (some ⟨hp, 0, none⟩))::undef::undef::undef::undef::undef::undef::undef::undef::undef::undef::(.bool true)::(.bool false)::(.pointer (some ⟨g0, 0, none⟩))::(.pointer (some ⟨g1, 0, none⟩))::(.agg (pp (twoN g0 g1)))::(.pointer (some ⟨r0, 0, none⟩))::undef::undef::undef::undef::undef::undef::undef::undef::undef::undef::undef::undef::undef::undef::undef::undef::undef::undef::undef::undef::undef::undef::undef::undef::undef::undef::undef::undef::undef::undef::undef::undef::undef::undef::undef::undef::undef::undef::undef::undef::undef::undef::undef::undef::undef::undef::undef::undef::undef::undef::undef::undef::undef::undef::undef::undef::undef::undef::undef::undef::undef::undef::undef::undef::undef::undef::undef::undef::undef::undef::undef::undef::undef::undef::undef::undef::undef::undef::undef::undef::undef::undef::undef::undef::undef::undef::undef::undef::undef::undef::undef::undef::undef::undef::undef::undef::undef::undef::undef::undef::undef::undef::undef::undef::undef::undef::undef::undef::undef::undef::undef::undef::undef::[]), []⟩) (by kernel_rfl) rfl (by kernel_rfl) fun K hK => ?_
  refine op_c0 (fun _ _ => rfl) rfl (rnew_any _) ?_
  rintro e w5 ⟨rfl, hw9⟩
  have H5 := Lib.hid (show Mod no w4 w5 ∧ r0 = w4.heap.size ∧ Blk w5 r0 79 #[.slice none 0 0] from by rw [hw9]; exact ⟨(Mod.refl no w4).alloc _, hr9, Blk.new_at _ _ _ hr9⟩)
  rw [← hr9]
  clear hw9 hr9
  refine ⟨_, rfl, hK _ ?_⟩
  clear hK K
  obtain ⟨r1, hr9⟩ : ∃ r1, r1 = w5.heap.size := ⟨_, rfl⟩
  refine HD.wl_callF (d := some 20) (v := (.pointer (some ⟨r1, 0, none⟩))) (a' := ⟨List.toArray ((sv)::undef::(.bool false)::(.pointer (some ⟨hp, 0, none⟩))::undef::undef::undef::undef::undef::undef::undef::undef::undef::undef::(.bool true)::(.bool false)::(.pointer (some ⟨g0, 0, none⟩))::(.pointer (some ⟨g1, 0, none⟩))::(.agg (pp (twoN g0 g1)))::(.pointer (some ⟨r0, 0, none⟩))::(.pointer (some ⟨r1, 0, none⟩))::undef::undef::undef::undef::undef::undef::undef::undef::undef::undef::undef::undef::undef::undef::undef::undef::undef::undef::undef::undef::undef::undef::undef::undef::undef::undef::undef::undef::undef::undef::undef::undef::undef::undef::undef::undef::undef::undef::undef::undef::undef::undef::undef::undef::undef::undef::undef::undef::undef::undef::undef::undef::undef::undef::undef::undef::undef::undef::undef::undef::undef::undef::undef::undef::undef::undef::undef::undef::undef::undef::undef::undef::undef::undef::undef::undef::undef::undef::undef::undef::undef::undef::undef::undef::undef::undef::undef::undef::undef::undef::undef::undef::undef::undef::undef::undef::undef::undef::undef::undef::undef::undef::undef::undef::undef::undef::undef::undef::undef::undef::undef::undef::[]), []⟩) (by kernel_rfl) rfl (by kernel_rfl) fun K hK => ?_
  refine op_c0 (fun _ _ => rfl) rfl (rnew_any _) ?_
  rintro e w6 ⟨rfl, hw9⟩
  have H6 := Lib.hid (show Mod no w5 w6 ∧ r1 = w5.heap.size ∧ Blk w6 r1 79 #[.slice none 0 0] from by rw [hw9]; exact ⟨(Mod.refl no w5).alloc _, hr9, Blk.new_at _ _ _ hr9⟩)
  rw [← hr9]
  clear hw9 hr9
  refine ⟨_, rfl, hK _ ?_⟩
  clear hK K
  refine HD.wl_takeF (d := some 21) (v := (.agg (pp (twoN r0 r1)))) (a' := ⟨List.toArray ((sv)::undef::(.bool false)::(.pointer (some ⟨hp, 0, none⟩))::undef::undef::undef::undef::undef::undef::undef::undef::undef::undef::(.bool true)::(.bool false)::(.pointer (some ⟨g0, 0, none⟩))::(.pointer (some ⟨g1, 0, none⟩))::(.agg (pp (twoN g0 g1)))::(.pointer (some ⟨r0, 0, none⟩))::(.pointer (some ⟨r1, 0, none⟩))::(.agg (pp (twoN r0 r1)))::undef::undef::undef::undef::undef::undef::undef::undef::undef::undef::undef::undef::undef::undef::undef::undef::undef::undef::undef::undef::undef::undef::undef::undef::undef::undef::undef::undef::undef::undef::undef::undef::undef::undef::undef::undef::undef::undef::undef::undef::undef::undef::undef::undef::undef::undef::undef::undef::undef::undef::undef::undef::undef::undef::undef::undef::undef::undef::undef::undef::undef::undef::undef::undef::undef::undef::undef::undef::undef::undef::undef::undef::undef::undef::undef::undef::undef::undef::undef::undef::undef::undef::undef::undef::undef::undef::undef::undef::undef::undef::undef::undef::undef::undef::undef::undef::undef::undef::undef::undef::undef::undef::undef::undef::undef::undef::undef::undef::undef::undef::undef::[]), []⟩) (by kernel_rfl) rfl (by kernel_rfl) (y_bpr rfl rfl rfl) ?_
  obtain ⟨hr, hh8⟩ : ∃ hr, hr = w6.heap.size := ⟨_, rfl⟩
  refine HD.wl_takeF (d := some 4) (v := (.pointer (some ⟨hr, 0, none⟩))) (a' := ⟨List.toArray ((sv)::undef::(.bool false)::(.pointer (some ⟨hp, 0, none⟩))::(.pointer (some ⟨hr, 0, none⟩))::undef::undef::undef::undef::undef::undef::undef::undef::undef::(.bool true)::(.bool false)::(.pointer (some ⟨g0, 0, none⟩))::(.pointer (some ⟨g1, 0, none⟩))::(.agg (pp (twoN g0 g1)))::(.pointer (some ⟨r0, 0, none⟩))::(.pointer (some ⟨r1, 0, none⟩))::(.agg (pp (twoN r0 r1)))::undef::undef::undef::undef::undef::undef::undef::undef::undef::undef::undef::undef::undef::undef::undef::undef::undef::undef::undef::undef::undef::undef::undef::undef::undef::undef::undef::undef::undef::undef::undef::undef::undef::undef::undef::undef::undef::undef::undef::undef::undef::undef::undef::undef::undef::undef::undef::undef::undef::undef::undef::undef::undef::undef::undef::undef::undef::undef::undef::undef::undef::undef::undef::undef::undef::undef::undef::undef::undef::undef::undef::undef::undef::undef::undef::undef::undef::undef::undef::undef::undef::undef::undef::undef::undef::undef::undef::undef::undef::undef::undef::undef::undef::undef::undef::undef::undef::undef::undef::undef::undef::undef::undef::undef::undef::undef::undef::undef::undef::undef::undef::[]), []⟩) (by kernel_rfl) rfl (by kernel_rfl) (by rw [hh8]; exact y_allocpr rfl) ?_
  refine HD.wl_storeF (a' := ⟨List.toArray ((sv)::undef::(.bool false)::(.pointer (some ⟨hp, 0, none⟩))::(.pointer (some ⟨hr, 0, none⟩))::undef::undef::undef::undef::undef::undef::undef::undef::undef::(.bool true)::(.bool false)::(.pointer (some ⟨g0, 0, none⟩))::(.pointer (some ⟨g1, 0, none⟩))::(.agg (pp (twoN g0 g1)))::(.pointer (some ⟨r0, 0, none⟩))::(.pointer (some ⟨r1, 0, none⟩))::(.agg (pp (twoN r0 r1)))::undef::undef::undef::undef::undef::undef::undef::undef::undef::undef::undef::undef::undef::undef::undef::undef::undef::undef::undef::undef::undef::undef::undef::undef::undef::undef::undef::undef::undef::undef::undef::undef::undef::undef::undef::undef::undef::undef::undef::undef::undef::undef::undef::undef::undef::undef::undef::undef::undef::undef::undef::undef::undef::undef::undef::undef::undef::undef::undef::undef::undef::undef::undef::undef::undef::undef::undef::undef::undef::undef::undef::undef::undef::undef::undef::undef::undef::undef::undef::undef::undef::undef::undef::undef::undef::undef::undef::undef::undef::undef::undef::undef::undef::undef::undef::undef::undef::undef::undef::undef::undef::undef::undef::undef::undef::undef::undef::undef::undef::undef::undef::[]), []⟩) rfl hr 0 (pp (twoN r0 r1)) (by kernel_rfl) rfl (by kernel_rfl) rfl rfl (blk_there (show Blk (w6.alloc (.cells #[.pointer none, .pointer none] 70)) hr 70 #[.pointer none, .pointer none] from by rw [hh8]; exact Blk.new _ _ _) 0 2 (by decide)) (prefix2_sizeG _) (pp_ones _) ?_
  have hF := fresh_pp w6 70 (twoN r0 r1)
  rw [← hh8] at hF
  obtain ⟨w7, hw8⟩ : ∃ w7, w7 = ((w6.alloc (.cells #[.pointer none, .pointer none] 70)).setCells hr 0 (pp (twoN r0 r1)).toList) := ⟨_, rfl⟩
  change HD.WL _ _ _ _ ((w6.alloc (.cells #[.pointer none, .pointer none] 70)).setCells hr 0 (pp (twoN r0 r1)).toList)
  rw [← hw8] at hF ⊢
  have HX := Lib.hid (ex_init H1.out H2.out.1 H2.out.2 H3.out.1 H3.out.2 H4.out.1.1 H4.out.2 H4.out.1.2 H5.out.1 H5.out.2.1 H5.out.2.2 H6.out.1 H6.out.2.1 H6.out.2.2 hF.1 hh8 hF.2)
  clear hF hw8 hh8
  refine HD.wl_done ?_
  go_upto_region 5 with fail
  rename (∀ (a : Act) (w : World), Code.wp _ (Code.seq (Code.seq (Code.region 6 _ _) _) _) _ a w → _) => hK6
  have HK6 := Lib.hid hK6
  clear hK6
  go_wp2_with fail
  refine HK6.out _ _ (loop1_any HX.out HS.out.1 HS.out.2)
end Go.Proofs.Ytknbehjhaaidoaa.IX

