/- The law WireAdds: the code behind the first loop. -/
import Derived.Test.YtpfkcejndjnbhaaAddsT
import Derived.StillTailTactics
namespace Go.Proofs.Ytpfkcejndjnbhaa.AD
open Go.RowKit Mem WM
open Go.Proofs.Ytpfkcejndjnbhaa.WD (RdT RdB u8_info own_mod key_size rowS conv_string wpList_put1)
open Go.Proofs.Ytpfkcejndjnbhaa.OP (AddI AddAt allB allB_0 allB_succ Elems cell_lt atA copied_r)
open Go.Proofs.Ytpfkcejndjnbhaa.EN
open Go.Proofs.Ytpfkcejndjnbhaa.BK (conv_rds add_range range_mod add_info allB_le)
open Go.Proofs.Ytpfkcejndjnbhaa.ON (wpList_laid addL_len)
set_option linter.unusedVariables false
set_option linter.unusedSimpArgs false


noncomputable def last2C : Code := sR lastC

theorem own_cell {w : World} {base : Nat} {e : TypeId} {A : Option Addr} {n c j : Nat} {xs : List Value} {v : Value} (h : w.ownsRow base e 1 (.slice A n c) n xs) (hv : xs[j]? = some v) :
    ∃ b, A = some ⟨b, 0, none⟩ ∧ w.cell? ⟨b, j, none⟩ = some v := by
  have hl : j < xs.length := (List.getElem?_eq_some_iff.1 hv).1
  have h1 := h.1
  rcases h.2 with ⟨hA, h0⟩ | ⟨g', cap, cur, hA, _, hb, _, _, _, h4⟩
  · omega
  · injection hA with hA
    refine ⟨g', hA, ?_⟩
    have hb' : Blk w g' e cur := hb
    have := hb'.cell j
    rw [this, ← hv, ← h4, List.getElem?_take, if_pos (by omega)]
    simp

def RetP (R : Act → World → Prop) : Exit → Act → World → Prop
  | .normal, a, w => R a w
  | _, _, _ => False

def LastInv (w0 : World) (m : Nat) (i : Value) (wr : World) : Prop := ∃ j : Nat, j ≤ m ∧ i = .int .i64 (j : Int) ∧ Mod no w0 wr

set_option maxRecDepth 100000 in
set_option maxHeartbeats 4000000 in
theorem last2_any {W : World} {F : Nat → AddI} {n : Nat} {va vk vw : Value} {w0 : World} {A1 Aa : Option Addr} {ca : Nat} {L : List KR}
    (H : AddsH W F W.heap.size n va vk vw w0 A1 Aa ca L) (hL : L.length ≤ 1048576 ∧ ∀ x ∈ L, x.l.length ≤ 60000000)
    (d0 d1 d2 d3 d4 d5 d6 d9 d10 d11 d12 d13 d14 d15 d16 d17 d18 d19 d20 d21 d22 d23 d24 d25 d26 d27 d28 d29 d30 d31 d32 d33 d34 d35 d36 d37 d38 d39 d40 d41 d42 d43 d44 d45 d46 d47 d48 d49 d50 d51 d52 d53 d54 d55 d56 d57 d58 d59 d60 d61 d62 d63 d64 d65 d66 d67 d68 d69 d70 d71 d72 d73 d74 d75 d76 d77 d78 d79 d80 d81 d82 d83 d84 d85 d86 d87 d88 d89 d90 d91 d92 d93 d94 d95 d96 d97 d98 d99 d100 d101 d102 d103 d104 d105 d106 d107 d108 d109 d110 d111 d112 d113 d114 d115 d116 d117 d118 d119 d120 : Value) (Q : Exit → Act → World → Prop)
    (hexit : ∀ (u4 u13 u105 u106 u107 u108 u109 u110 u111 u112 u113 u114 u115 u116 u117 u118 u119 u120 : Value) (w' : World), u4 = .bool true → Mod no W w' → Q .ret ⟨List.toArray (d0 :: d1 :: d2 :: d3 :: u4 :: d5 :: d6 :: (vk) :: (vw) :: d9 :: d10 :: d11 :: d12 :: u13 :: d14 :: d15 :: d16 :: d17 :: d18 :: d19 :: d20 :: d21 :: d22 :: d23 :: d24 :: d25 :: d26 :: d27 :: d28 :: d29 :: d30 :: d31 :: d32 :: d33 :: d34 :: d35 :: d36 :: d37 :: d38 :: d39 :: d40 :: d41 :: d42 :: d43 :: d44 :: d45 :: d46 :: d47 :: d48 :: d49 :: d50 :: d51 :: d52 :: d53 :: d54 :: d55 :: d56 :: d57 :: d58 :: d59 :: d60 :: d61 :: d62 :: d63 :: d64 :: d65 :: d66 :: d67 :: d68 :: d69 :: d70 :: d71 :: d72 :: d73 :: d74 :: d75 :: d76 :: d77 :: d78 :: d79 :: d80 :: d81 :: d82 :: d83 :: d84 :: d85 :: d86 :: d87 :: d88 :: d89 :: d90 :: d91 :: d92 :: d93 :: d94 :: d95 :: d96 :: d97 :: d98 :: d99 :: d100 :: d101 :: d102 :: d103 :: d104 :: u105 :: u106 :: u107 :: u108 :: u109 :: u110 :: u111 :: u112 :: u113 :: u114 :: u115 :: u116 :: u117 :: u118 :: u119 :: u120 :: []), []⟩ w') :
    Code.wp Try.prog last2C Q ⟨List.toArray (d0 :: d1 :: d2 :: d3 :: d4 :: d5 :: d6 :: (vk) :: (vw) :: d9 :: d10 :: d11 :: d12 :: d13 :: d14 :: d15 :: d16 :: d17 :: d18 :: d19 :: d20 :: d21 :: d22 :: d23 :: d24 :: d25 :: d26 :: d27 :: d28 :: d29 :: d30 :: d31 :: d32 :: d33 :: d34 :: d35 :: d36 :: d37 :: d38 :: d39 :: d40 :: d41 :: d42 :: d43 :: d44 :: d45 :: d46 :: d47 :: d48 :: d49 :: d50 :: d51 :: d52 :: d53 :: d54 :: d55 :: d56 :: d57 :: d58 :: d59 :: d60 :: d61 :: d62 :: d63 :: d64 :: d65 :: d66 :: d67 :: d68 :: d69 :: d70 :: d71 :: d72 :: d73 :: d74 :: d75 :: d76 :: d77 :: d78 :: d79 :: d80 :: d81 :: d82 :: d83 :: d84 :: d85 :: d86 :: d87 :: d88 :: d89 :: d90 :: d91 :: d92 :: d93 :: d94 :: d95 :: d96 :: d97 :: d98 :: d99 :: d100 :: d101 :: d102 :: d103 :: d104 :: d105 :: d106 :: d107 :: d108 :: d109 :: d110 :: d111 :: d112 :: d113 :: d114 :: d115 :: d116 :: d117 :: d118 :: d119 :: d120 :: []), []⟩ w0 := by
  have HLE := Lib.hid hexit
  clear hexit
  obtain ⟨Ak, ck, rfl⟩ : ∃ Ak ck, vk = .slice Ak L.length ck := by
    rcases H.kept.2 with ⟨hv, h0⟩ | ⟨g', cap, cur, hv, _⟩
    · exact ⟨_, _, by rw [hv, h0]⟩
    · exact ⟨_, _, hv⟩
  obtain ⟨Aw, cw, rfl⟩ : ∃ Aw cw, vw = .slice Aw L.length cw := by
    rcases H.want.2 with ⟨hv, h0⟩ | ⟨g', cap, cur, hv, _⟩
    · exact ⟨_, _, by rw [hv, h0]⟩
    · exact ⟨_, _, hv⟩
  have HH := Lib.hid H
  have HL := Lib.hid hL
  clear H hL
  conv => arg 2; whnf
  go_wp2_with fail
  go_loopw [13] (LastInv w0 L.length) (fun i _ => L.length - (intOf i).toNat)
  case atStart => exact ⟨0, Nat.zero_le _, rfl, Mod.refl _ _⟩
  case round =>
    obtain ⟨j, hj, rfl, M⟩ := hrel
    have HR := HH.out.mod_no M
    by_cases hlj : j < L.length
    · obtain ⟨x, hx⟩ : ∃ x, L[j]? = some x := ⟨L[j], List.getElem?_eq_getElem hlj⟩
      obtain ⟨bk, rfl, ck1⟩ := own_cell (j := j) HR.kept (by rw [List.getElem?_map, hx]; rfl)
      obtain ⟨bw, rfl, cw1⟩ := own_cell (j := j) HR.want (by rw [List.getElem?_map, hx]; rfl)
      have hrx := (HR.rows x (List.mem_of_getElem? hx)).1
      have hxl := HL.out.2 x (List.mem_of_getElem? hx)
      have ck2 : wr.cell? ⟨bk, j, none⟩ = some (.slice x.A x.l.length x.c) := ck1
      have cw2 : wr.cell? ⟨bw, j, none⟩ = some (.string ⟨x.l.toArray⟩) := cw1
      have hcv := fun nq => conv_string (w := wr.drewN nq) (RdT.mod (S := no) hrx.rdt ((Mod.refl no wr).drewN nq) (fun _ _ _ c => c)) x.l.length x.c rfl
      have hj64 : (j : Int) < 1048576 := by have := HL.out.1; omega
      have hjl : (j : Int) < (L.length : Int) := by omega
      have hj0 : (0 : Int) ≤ (j : Int) := by omega
      have HM := Lib.hid M
      have HJ := Lib.hid (And.intro hj hlj)
      clear ck1 cw1 HR hrx hxl M hx hj hlj
      go_wp2_with fail
      go_quiet (fail)
      have HM2 := Lib.hid (HM.out.drewN nq)
      clear hcv ck2 cw2
      generalize wr.drewN nq = w7 at *
      have hw64 : wrap64 ((j : Int) + 1) = (j : Int) + 1 := IntWalk.wrap64_in _ (by omega)
      go_wp2_with fail
      go_roundw
      case rel => exact ⟨j + 1, HJ.out.2, by go_num, HM2.out⟩
      case measure => have := HJ.out; simp [intOf]; omega
    · obtain rfl : j = L.length := by omega
      have HO := Lib.hid HR.old
      clear HR M hj hlj
      go_wp2_with fail
      exact HLE.out _ _ _ _ _ _ _ _ _ _ _ _ _ _ _ _ _ _ _ rfl HO.out

set_option maxRecDepth 100000 in
set_option maxHeartbeats 4000000 in
theorem last_any {W : World} {F : Nat → AddI} {n : Nat} {va vk vw : Value} {w0 : World} {A1 Aa : Option Addr} {ca : Nat} {L : List KR}
    (H : AddsH W F W.heap.size n va vk vw w0 A1 Aa ca L) (hL : L.length ≤ 1048576 ∧ ∀ x ∈ L, x.l.length ≤ 60000000) (hall : (allB F n).length ≤ 60000000)
    (d0 d1 d2 d3 d4 d9 d10 d11 d12 d13 d14 d15 d16 d17 d18 d19 d20 d21 d22 d23 d24 d25 d26 d27 d28 d29 d30 d31 d32 d33 d34 d35 d36 d37 d38 d39 d40 d41 d42 d43 d44 d45 d46 d47 d48 d49 d50 d51 d52 d53 d54 d55 d56 d57 d58 d59 d60 d61 d62 d63 d64 d65 d66 d67 d68 d69 d70 d71 d72 d73 d74 d75 d76 d77 d78 d79 d80 d81 d82 d83 d84 d85 d86 d87 d88 d89 d90 d91 d92 d93 d94 d95 d96 d97 d98 d99 d100 d101 d102 d103 d104 d105 d106 d107 d108 d109 d110 d111 d112 d113 d114 d115 d116 d117 d118 d119 d120 : Value) (Q : Exit → Act → World → Prop)
    (hexit : ∀ (u4 u13 u94 u95 u96 u97 u98 u99 u100 u101 u102 u103 u104 u105 u106 u107 u108 u109 u110 u111 u112 u113 u114 u115 u116 u117 u118 u119 u120 : Value) (w' : World), u4 = .bool true → Mod no W w' → Q .ret ⟨List.toArray (d0 :: d1 :: d2 :: d3 :: u4 :: (.pointer (some ⟨W.heap.size, 0, none⟩)) :: (.slice Aa (allB F n).length ca) :: (vk) :: (vw) :: d9 :: d10 :: d11 :: d12 :: u13 :: d14 :: d15 :: d16 :: d17 :: d18 :: d19 :: d20 :: d21 :: d22 :: d23 :: d24 :: d25 :: d26 :: d27 :: d28 :: d29 :: d30 :: d31 :: d32 :: d33 :: d34 :: d35 :: d36 :: d37 :: d38 :: d39 :: d40 :: d41 :: d42 :: d43 :: d44 :: d45 :: d46 :: d47 :: d48 :: d49 :: d50 :: d51 :: d52 :: d53 :: d54 :: d55 :: d56 :: d57 :: d58 :: d59 :: d60 :: d61 :: d62 :: d63 :: d64 :: d65 :: d66 :: d67 :: d68 :: d69 :: d70 :: d71 :: d72 :: d73 :: d74 :: d75 :: d76 :: d77 :: d78 :: d79 :: d80 :: d81 :: d82 :: d83 :: d84 :: d85 :: d86 :: d87 :: d88 :: d89 :: d90 :: d91 :: d92 :: d93 :: u94 :: u95 :: u96 :: u97 :: u98 :: u99 :: u100 :: u101 :: u102 :: u103 :: u104 :: u105 :: u106 :: u107 :: u108 :: u109 :: u110 :: u111 :: u112 :: u113 :: u114 :: u115 :: u116 :: u117 :: u118 :: u119 :: u120 :: []), []⟩ w') :
    Code.wp Try.prog lastC Q ⟨List.toArray (d0 :: d1 :: d2 :: d3 :: d4 :: (.pointer (some ⟨W.heap.size, 0, none⟩)) :: (.slice Aa (allB F n).length ca) :: (vk) :: (vw) :: d9 :: d10 :: d11 :: d12 :: d13 :: d14 :: d15 :: d16 :: d17 :: d18 :: d19 :: d20 :: d21 :: d22 :: d23 :: d24 :: d25 :: d26 :: d27 :: d28 :: d29 :: d30 :: d31 :: d32 :: d33 :: d34 :: d35 :: d36 :: d37 :: d38 :: d39 :: d40 :: d41 :: d42 :: d43 :: d44 :: d45 :: d46 :: d47 :: d48 :: d49 :: d50 :: d51 :: d52 :: d53 :: d54 :: d55 :: d56 :: d57 :: d58 :: d59 :: d60 :: d61 :: d62 :: d63 :: d64 :: d65 :: d66 :: d67 :: d68 :: d69 :: d70 :: d71 :: d72 :: d73 :: d74 :: d75 :: d76 :: d77 :: d78 :: d79 :: d80 :: d81 :: d82 :: d83 :: d84 :: d85 :: d86 :: d87 :: d88 :: d89 :: d90 :: d91 :: d92 :: d93 :: d94 :: d95 :: d96 :: d97 :: d98 :: d99 :: d100 :: d101 :: d102 :: d103 :: d104 :: d105 :: d106 :: d107 :: d108 :: d109 :: d110 :: d111 :: d112 :: d113 :: d114 :: d115 :: d116 :: d117 :: d118 :: d119 :: d120 :: []), []⟩ w0 := by
  have HLE := Lib.hid hexit
  have HH := Lib.hid H
  have HL := Lib.hid hL
  have HALL := Lib.hid hall
  clear hexit H hL hall
  show Code.wp Try.prog (Code.seq (sL lastC) last2C) Q _ _
  refine wp_seq ?_
  refine Code.wp_mono (Q := RetP (fun a w => Code.wp Try.prog last2C Q a w)) (fun e a w q => by cases e <;> first | exact q | exact q.elim) ?_
  conv => arg 2; whnf
  go_wp2_with fail
  have HC0 := Lib.hid (show ∀ w', Mod no w0 w' → (convert 23 9 (.slice Aa (allB F n).length ca)).run Try.prog w' = .ok (.string ⟨(allB F n).toArray⟩) w' from fun w' m => conv_string (HH.out.mod_no m).row.rdt _ _ rfl)
  have hcA := HC0.out _ ((Mod.refl no w0).drew)
  go_region_with (first
    | (go_at_call 13; refine (len_any (HH.out.mod_no ((Mod.refl no w0).drew)).enc.r).mono ?_; rintro e w1 ⟨rfl, rfl⟩)
    | (go_at_call 12
       refine (bytes_any (HH.out.mod_no ((Mod.refl no w0).drew)).enc.r ?_).mono ?_
       · have := HALL.out; omega
       rintro e w11 ⟨A8, c8, rfl, hown, M⟩
       have hcv := conv_string (RdT.of_own hown) (allB F n).length c8 rfl
       have hcB := HC0.out _ (((Mod.refl no w0).drew).and_then M)
       have HMB := Lib.hid (((Mod.refl no w0).drew).and_then M)
       clear hown M))
  all_goals
    go_wp2_with fail
    refine last2_any (HH.out.mod_no HMB.out) HL.out _ _ _ _ _ _ _ _ _ _ _ _ _ _ _ _ _ _ _ _ _ _ _ _ _ _ _ _ _ _ _ _ _ _ _ _ _ _ _ _ _ _ _ _ _ _ _ _ _ _ _ _ _ _ _ _ _ _ _ _ _ _ _ _ _ _ _ _ _ _ _ _ _ _ _ _ _ _ _ _ _ _ _ _ _ _ _ _ _ _ _ _ _ _ _ _ _ _ _ _ _ _ _ _ _ _ _ _ _ _ _ _ _ _ _ _ _ _ _ _ ?_
    intro u4 u13 u105 u106 u107 u108 u109 u110 u111 u112 u113 u114 u115 u116 u117 u118 u119 u120 w' h M
    exact HLE.out _ _ _ _ _ _ _ _ _ _ _ _ _ _ _ _ _ _ _ _ _ _ _ _ _ _ _ _ _ _ h M

end Go.Proofs.Ytpfkcejndjnbhaa.AD
