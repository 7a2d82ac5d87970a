/- The arguments of the law KeepFew, opened. -/
import Derived.Test.YtoncjoelkenjnaaPsD
import Derived.Test.YtoncjoelkenjnaaFwE
namespace Go.Proofs.Ytoncjoelkenjnaa.PL
open Go.ChangeShapes Go.WideShapes Go.ChangeAt Go.RowKit Mem
set_option linter.unusedVariables false
set_option linter.unusedSimpArgs false

set_option maxRecDepth 100000 in
theorem few_core (H : Type) (enc : TypeId × Value → H) (W : World) (base : Nat) (v0 : Value) (d0 : DataW H) (p0 : List MemPlace) (v1 : Value) (d1 : DataW H) (p1 : List MemPlace) (v2 : Value) (d2 : DataW H) (p2 : List MemPlace)
    (o0 : Value.okWide Try.prog W .any base 48 v0) (o1 : Value.okWide Try.prog W .any base 50 v1) (o2 : Value.okWide Try.prog W .any base 50 v2)
    (h0 : DataW.Trod enc Try.prog W 0 (fun _ => true) true 48 v0 d0 p0) (h1 : DataW.Trod enc Try.prog W 0 (fun _ => true) true 50 v1 d1 p1) (h2 : DataW.Trod enc Try.prog W 0 (fun _ => true) true 50 v2 d2 p2) :
    Calls Try.prog 8 #[v0, v1, v2] W fun e w' => e = .returned (.bool true) ∧ Below W.heap.size W w' := by
  obtain ⟨A, n, c, E, D, Pl, f, rfl, hE, _, hn, hall, hr⟩ := open_elems Try.underlying48 shot_cells (by decide) o0 h0
  obtain ⟨l, h, d, k, m, y, v, rfl, r1, r2, r3, r4, r5, r6, r7⟩ := open_rule o1 h1
  obtain ⟨l', h', d', k', m', y', v', rfl, s1, s2, s3, s4, s5, s6, s7⟩ := open_rule o2 h2
  have hx : ∀ i, i < n → ∃ st : ByteArray × Int, E i = [.string st.1, .int .i64 st.2] := fun i hi => by
    obtain ⟨s, t, e, _⟩ := shot_read (hr i hi)
    exact ⟨(s, t), e⟩
  obtain ⟨T, hT⟩ := Deep.choose_lt hx
  have hsh : ∃ b o, ShA W A b o n (fun i => (T i).1) (fun i => (T i).2) := by
    rcases Nat.eq_zero_or_pos n with h0 | h0
    · exact ⟨0, 0, fun h => by omega, fun i hi => by omega, fun i hi => by omega⟩
    · obtain ⟨b, o, hA, hc⟩ := hE h0
      refine ⟨b, o, fun _ => hA, fun i hi => ?_, fun i hi => ?_⟩
      · have h2 := (hc i hi).2 0 (by decide)
        rw [hT i hi, Nat.add_zero] at h2
        exact h2
      · have h2 := (hc i hi).2 1 (by decide)
        rw [hT i hi] at h2
        exact h2
  obtain ⟨b, o, hs⟩ := hsh
  refine (few_law hs r1 r2 r3 r4 r5 r6 r7 s1 s2 s3 s4 s5 s6 s7).mono ?_
  rintro e w' ⟨he, M⟩
  exact ⟨he, M.below (Nat.le_refl _) (fun k hk c => c.elim)⟩
end Go.Proofs.Ytoncjoelkenjnaa.PL
