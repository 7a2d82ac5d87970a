/- Going on by Next while entries come and go: the plain law. -/
import Derived.Test.YtknbehjhaaidoaaIxI
namespace Go.Proofs.Ytknbehjhaaidoaa.IX
open Go.RowKit Go.Shelf Mem HD TB
set_option linter.unusedVariables false
set_option linter.unusedSimpArgs false
abbrev Prs := List (Key × Ent)
/-- The keys of pairs. -/
def ks (L : Prs) : List Key := L.map Prod.fst
theorem mem_ks {L : Prs} {k : Key} : k ∈ ks L ↔ ∃ v, (k, v) ∈ L := by
  unfold ks
  rw [List.mem_map]
  constructor
  · rintro ⟨⟨a, b⟩, h, rfl⟩; exact ⟨b, h⟩
  · rintro ⟨v, h⟩; exact ⟨(k, v), h, rfl⟩
theorem len_of {α : Type} [DecidableEq α] : ∀ (l m : List α), l.Nodup → (∀ x ∈ l, x ∈ m) → l.length ≤ m.length
  | [], _, _, _ => Nat.zero_le _
  | a :: l, m, hn, hs => by
    have ha := hs a List.mem_cons_self
    have hn := List.nodup_cons.1 hn
    have ih := len_of l (m.erase a) hn.2 (fun x hx => (List.mem_erase_of_ne (fun c => hn.1 (by rw [← c]; exact hx))).2 (hs x (List.mem_cons_of_mem _ hx)))
    rw [List.length_erase_of_mem ha] at ih
    have := List.length_pos_of_mem ha
    rw [List.length_cons]
    omega
theorem flat_nodup {T : Nat → Tab Key Ent} (hn : ∀ i, i < 16 → NK (T i).L) (hs : ∀ i, i < 16 → ∀ k v, (k, v) ∈ (T i).L → shard k = i) : ∀ n, n ≤ 16 → NK (seen T n)
  | 0, _ => by show ([] : List Key).Nodup; exact List.nodup_nil
  | n + 1, h => by
    rw [seen_succ]
    show ((seen T n ++ (T n).L).map Prod.fst).Nodup
    rw [List.map_append, List.nodup_append]
    refine ⟨flat_nodup hn hs n (by omega), hn n (by omega), fun a ha b hb e => ?_⟩
    subst e
    obtain ⟨v, hv⟩ := mem_ks.1 ha
    obtain ⟨v', hv'⟩ := mem_ks.1 hb
    unfold seen at hv
    obtain ⟨j, hj, hv⟩ := List.mem_flatMap.1 hv
    have hj := List.mem_range.1 hj
    have h1 := hs j (by omega) a v hv
    have h2 := hs n (by omega) a v' hv'
    omega
theorem IxAt.nk {w : World} {g : Nat} {R : Nat → Prop} {T : Nat → Tab Key Ent} {P : Nat → Nat} {Rs : Nat → Nat → Prop} (h : IxAt w g R T P Rs) : NK (IL T) := flat_nodup (fun i hi => (h.wf i hi).nk) h.sh 16 (Nat.le_refl _)
theorem tab_le (T : Nat → Tab Key Ent) {i : Nat} (hi : i < 16) : (T i).L.length ≤ (IL T).length := by
  have h : ∀ n, n ≤ 16 → i < n → (T i).L.length ≤ (seen T n).length := fun n => by
    induction n with
    | zero => intro _ h; omega
    | succ n ih =>
      intro hn h
      rw [seen_succ, List.length_append]
      by_cases e : i = n
      · subst e; omega
      · have := ih (by omega) (by omega); omega
  exact h 16 (Nat.le_refl _) hi
/-- A key above all that have been told. -/
def above (told : List Key) (k : Key) : Prop := ∀ t ∈ told, klt t k
def BestT (told : List Key) (L : Prs) : Option (Key × Ent) → Prop
  | none => ∀ x ∈ L, ¬ above told x.1
  | some y => y ∈ L ∧ above told y.1 ∧ ∀ x ∈ L, above told x.1 → ¬ klt x.1 y.1
theorem best_first {after : Key} {L : Prs} {r : Option (Key × Ent)} (h : Best true after L r) : BestT [] L r := by
  have ha : ∀ k, asked true after k = true := fun _ => rfl
  cases r with
  | none => exact fun x hx _ => h x hx (ha _)
  | some y => exact ⟨h.1, fun t ht => (nomatch ht), fun x hx _ => h.2.2 x hx (ha _)⟩
theorem above_snoc {told : List Key} {k : Key} (hk : above told k) {x : Key} : above (told ++ [k]) x ↔ klt k x := by
  constructor
  · exact fun h => h k (by simp)
  · intro h t ht
    rcases List.mem_append.1 ht with ht | ht
    · exact klt_trans (hk t ht) h
    · rw [List.mem_singleton.1 ht]; exact h
theorem best_next {told : List Key} {k : Key} (hk : above told k) {L : Prs} {r : Option (Key × Ent)} (h : Best false k L r) : BestT (told ++ [k]) L r := by
  have ha : ∀ x, asked false k x = true ↔ above (told ++ [k]) x := fun x => by rw [above_snoc hk, asked_iff]; simp
  cases r with
  | none => exact fun x hx c => h x hx ((ha _).2 c)
  | some y => exact ⟨h.1, (ha _).1 h.2.1, fun x hx c => h.2.2 x hx ((ha _).2 c)⟩
/-- Behind some steps. -/
structure SQ (F : List Key) (Cs : List (List Key)) (nn gb : Nat) (told gone : List Key) (L : Prs) : Prop where
  nk : NK L
  sub : ∀ k ∈ ks L, k ∈ F ++ Cs.flatten
  rise : told.Pairwise klt
  tsub : ∀ k ∈ told, k ∈ F ++ Cs.flatten
  gl : gone.length ≤ gb
  qf : ∀ k ∈ F, k ∈ gone ∨ (k ∈ ks L ∧ (k ∈ told ∨ above told k))
  qn : Cs = [] → gone = [] ∧ (∀ k ∈ told, k ∈ ks L) ∧ L.length = nn ∧ ∀ k ∈ ks L, k ∈ F
theorem rise_nodup {l : List Key} (h : l.Pairwise klt) : l.Nodup := List.Pairwise.imp (S := fun a b => a ≠ b) (fun {a b} h e => by subst e; exact klt_irrefl _ h) h
section
variable {F : List Key} {Cs : List (List Key)} {nn gb : Nat} {told gone : List Key} {L L' : Prs}
theorem SQ.told_le (h : SQ F Cs nn gb told gone L) : told.length ≤ (F ++ Cs.flatten).length := len_of _ _ (rise_nodup h.rise) h.tsub
theorem SQ.len_le (h : SQ F Cs nn gb told gone L) : L.length ≤ (F ++ Cs.flatten).length := by
  have := len_of (ks L) _ h.nk h.sub
  unfold ks at this
  rw [List.length_map] at this
  exact this
theorem SQ.tell (h : SQ F Cs nn gb told gone L) {y : Key × Ent} (hb : BestT told L (some y)) : SQ F Cs nn gb (told ++ [y.1]) gone L := by
  obtain ⟨h1, h2, h3⟩ := hb
  have hy : y.1 ∈ ks L := mem_ks.2 ⟨y.2, h1⟩
  refine ⟨h.nk, h.sub, List.pairwise_append.2 ⟨h.rise, List.pairwise_singleton _ _, fun a ha b hb => by rw [List.mem_singleton.1 hb]; exact h2 a ha⟩, fun k hk => ?_, h.gl, fun k hk => ?_, fun hc => ?_⟩
  · rcases List.mem_append.1 hk with hk | hk
    · exact h.tsub k hk
    · rw [List.mem_singleton.1 hk]; exact h.sub _ hy
  · rcases h.qf k hk with c | ⟨c1, c2⟩
    · exact .inl c
    · refine .inr ⟨c1, ?_⟩
      rcases c2 with c2 | c2
      · exact .inl (List.mem_append.2 (.inl c2))
      · obtain ⟨v, hv⟩ := mem_ks.1 c1
        rcases klt_tri k y.1 with c | c | c
        · exact absurd c (h3 (k, v) hv c2)
        · exact .inl (by rw [c]; simp)
        · exact .inr ((above_snoc h2).2 c)
  · obtain ⟨q1, q2, q3⟩ := h.qn hc
    refine ⟨q1, fun k hk => ?_, q3⟩
    rcases List.mem_append.1 hk with hk | hk
    · exact q2 k hk
    · rw [List.mem_singleton.1 hk]; exact hy
theorem SQ.del (h : SQ F Cs nn gb told gone L) {k : Key} (hc : Cs ≠ []) (p : L'.Perm (less L k)) : SQ F Cs nn (gb + 1) told (gone ++ [k]) L' := by
  refine ⟨(h.nk.less k).perm p.symm, fun x hx => ?_, h.rise, h.tsub, by rw [List.length_append]; exact Nat.succ_le_succ h.gl, fun x hx => ?_, fun c => absurd c hc⟩
  · obtain ⟨v, hv⟩ := mem_ks.1 hx
    exact h.sub x (mem_ks.2 ⟨v, (less_mem.1 (p.mem_iff.1 hv)).1⟩)
  · by_cases e : x = k
    · exact .inl (by rw [e]; simp)
    · rcases h.qf x hx with c | ⟨c1, c2⟩
      · exact .inl (List.mem_append.2 (.inl c))
      · obtain ⟨v, hv⟩ := mem_ks.1 c1
        exact .inr ⟨mem_ks.2 ⟨v, p.mem_iff.2 (less_mem.2 ⟨hv, e⟩)⟩, c2⟩
theorem SQ.put (h : SQ F Cs nn gb told gone L) {k : Key} {v : Ent} (hc : Cs ≠ []) (hk : k ∈ Cs.flatten) (hn : ∀ v, (k, v) ∉ L) (p : L'.Perm ((k, v) :: L)) : SQ F Cs nn (gb + 1) told gone L' := by
  have hnk : NK ((k, v) :: L) := List.nodup_cons.2 ⟨fun c => by obtain ⟨v', hv'⟩ := mem_ks.1 c; exact hn v' hv', h.nk⟩
  refine ⟨hnk.perm p.symm, fun x hx => ?_, h.rise, h.tsub, Nat.le_succ_of_le h.gl, fun x hx => ?_, fun c => absurd c hc⟩
  · obtain ⟨v', hv⟩ := mem_ks.1 hx
    rcases List.mem_cons.1 (p.mem_iff.1 hv) with c | c
    · injection c with c _; rw [c]; exact List.mem_append.2 (.inr hk)
    · exact h.sub x (mem_ks.2 ⟨v', c⟩)
  · rcases h.qf x hx with c | ⟨c1, c2⟩
    · exact .inl c
    · obtain ⟨v', hv⟩ := mem_ks.1 c1
      exact .inr ⟨mem_ks.2 ⟨v', p.mem_iff.2 (List.mem_cons_of_mem _ hv)⟩, c2⟩
theorem SQ.up (h : SQ F Cs nn gb told gone L) {gb' : Nat} (hg : gb ≤ gb') : SQ F Cs nn gb' told gone L := ⟨h.nk, h.sub, h.rise, h.tsub, Nat.le_trans h.gl hg, h.qf, h.qn⟩
theorem SQ.fin (h : SQ F Cs nn gb told gone L) (hb : BestT told L none) : (∀ k ∈ F, k ∈ gone ∨ k ∈ told) ∧ (Cs = [] → told.length = nn) := by
  have h1 : ∀ k ∈ F, k ∈ gone ∨ k ∈ told := fun k hk => by
    rcases h.qf k hk with c | ⟨c1, c2 | c2⟩
    · exact .inl c
    · exact .inr c2
    · obtain ⟨v, hv⟩ := mem_ks.1 c1
      exact absurd c2 (hb (k, v) hv)
  refine ⟨h1, fun hc => ?_⟩
  obtain ⟨q1, q2, q3, q4⟩ := h.qn hc
  have a := len_of told (ks L) (rise_nodup h.rise) q2
  have b := len_of (ks L) told h.nk (fun k hk => by
    rcases h1 k (q4 k hk) with c | c
    · rw [q1] at c; cases c
    · exact c)
  have e : (ks L).length = L.length := by unfold ks; rw [List.length_map]
  omega
end
/-- Behind i puts. -/
structure S1 (F : List Key) (i : Nat) (L : Prs) : Prop where
  nk : NK L
  ks : ∀ k, k ∈ ks L ↔ k ∈ F.take i
theorem S1.zero (F : List Key) {L : Prs} (h : L = []) : S1 F 0 L := by
  subst h
  exact ⟨List.nodup_nil, fun k => by simp [IX.ks]⟩
theorem S1.len {F : List Key} {i : Nat} {L : Prs} (h : S1 F i L) : L.length ≤ F.length := by
  have := len_of (IX.ks L) F h.nk (fun k hk => List.mem_of_mem_take ((h.ks k).1 hk))
  unfold IX.ks at this
  rw [List.length_map] at this
  exact this
theorem S1.put {F : List Key} {i : Nat} {L L' : Prs} (h : S1 F i L) {k : Key} {v : Ent} (hk : F[i]? = some k) {r : Option Ent} (hf : TB.Found L k r) (p : L'.Perm (if r.isSome = true then L else (k, v) :: L)) : S1 F (i + 1) L' := by
  have ht : ∀ x, x ∈ F.take (i + 1) ↔ x ∈ F.take i ∨ x = k := fun x => by rw [List.take_add_one, hk]; simp
  cases r with
  | some v0 =>
    have p : L'.Perm L := p
    refine ⟨h.nk.perm p.symm, fun x => ?_⟩
    rw [ht, ← h.ks]
    have : x ∈ IX.ks L' ↔ x ∈ IX.ks L := (p.map Prod.fst).mem_iff
    rw [this]
    exact ⟨.inl, fun c => by rcases c with c | rfl; exact c; exact mem_ks.2 ⟨v0, (hf v0).1 rfl⟩⟩
  | none =>
    have p : L'.Perm ((k, v) :: L) := p
    have hn : ∀ v, (k, v) ∉ L := fun v c => (nomatch (hf v).2 c)
    have hnk : NK ((k, v) :: L) := List.nodup_cons.2 ⟨fun c => by obtain ⟨v', hv'⟩ := mem_ks.1 c; exact hn v' hv', h.nk⟩
    refine ⟨hnk.perm p.symm, fun x => ?_⟩
    rw [ht, ← h.ks]
    have : x ∈ IX.ks L' ↔ x ∈ IX.ks ((k, v) :: L) := (p.map Prod.fst).mem_iff
    rw [this]
    show x ∈ k :: IX.ks L ↔ _
    rw [List.mem_cons]
    exact ⟨Or.symm, Or.symm⟩
theorem S1.sq {F : List Key} {L : Prs} (Cs : List (List Key)) (h : S1 F F.length L) : SQ F Cs L.length 0 [] [] L := by
  have hk : ∀ k, k ∈ IX.ks L ↔ k ∈ F := fun k => by rw [h.ks, List.take_length]
  exact ⟨h.nk, fun k c => List.mem_append.2 (.inl ((hk k).1 c)), List.Pairwise.nil, fun k c => (nomatch c), Nat.le_refl _, fun k c => .inr ⟨(hk k).2 c, .inr fun t ht => (nomatch ht)⟩, fun _ => ⟨rfl, fun k c => (nomatch c), rfl, fun k c => (hk k).1 c⟩⟩
theorem S1.pos {F : List Key} {L : Prs} (h : S1 F F.length L) (hF : 0 < F.length) : 0 < L.length := by
  obtain ⟨k, hk⟩ : ∃ k, k ∈ F := ⟨F[0], List.getElem_mem hF⟩
  have : k ∈ IX.ks L := by rw [h.ks, List.take_length]; exact hk
  obtain ⟨v, hv⟩ := mem_ks.1 this
  exact List.length_pos_of_mem hv
end Go.Proofs.Ytknbehjhaaidoaa.IX
