/- keep.Plan: what is kept, in plain Lean; the list of what is kept, in memory. -/
import Derived.Test.YtoncjoelkenjnaaPlC
import Derived.OwnWalk
namespace Go.Proofs.Ytoncjoelkenjnaa.PL
open Go.RowKit Mem Go.Proofs.Ytoncjoelkenjnaa.Days Go.Proofs.Ytoncjoelkenjnaa.SS
set_option linter.unusedVariables false
set_option linter.unusedSimpArgs false

def updW (ws : Nat → Int) (i : Nat) (v : Int) : Nat → Int := fun j => if j = i then v else ws j
/-- One part: how many it keeps at most, its bit, its buckets (by the place and the shot). -/
def inner (most why : Int) (b : Nat → Nat → Int) : Nat → List Int → Int → Int → (Nat → Int) → (Nat → Int)
  | _, [], _, _, ws => ws
  | p, x :: M, kept, last, ws =>
    if kept < most ∧ (p = 0 ∨ b p x.toNat ≠ last) then inner most why b (p + 1) M (kept + 1) (b p x.toNat) (updW ws x.toNat (ws x.toNat + why))
    else inner most why b (p + 1) M kept (b p x.toNat) ws
def bkt (tm : Nat → Int) (k : Nat) (p i : Nat) : Int := pb k (p : Int) (tm i)
/-- The first k parts. -/
def partsW (tm : Nat → Int) (M : List Int) (most : Nat → Int) : Nat → (Nat → Int)
  | 0 => fun _ => 0
  | k + 1 => inner (most k) (2 ^ k) (bkt tm k) 0 M 0 0 (partsW tm M most k)
/-- What is kept by its age. -/
def witW (tm : Nat → Int) (v t0 : Int) : List Int → (Nat → Int) → (Nat → Int)
  | [], ws => ws
  | x :: M, ws => witW tm v t0 M (if 0 < v ∧ t0 - tm x.toNat ≤ v then updW ws x.toNat (ws x.toNat + 64) else ws)
def mostF (l h d k m y : Int) (j : Nat) : Int := if j = 0 then l else if j = 1 then h else if j = 2 then d else if j = 3 then k else if j = 4 then m else y
def planW (tm : Nat → Int) (M : List Int) (l h d k m y v : Int) : Nat → Int := witW tm v (tm ((M.head?.getD 0).toNat)) M (partsW tm M (mostF l h d k m y) 6)
/-- The list's places. -/
def ints (n : Nat) : List Int := (List.range n).map fun (i : Nat) => (i : Int)
theorem ints_len (n : Nat) : (ints n).length = n := by simp [ints]
theorem mem_ints {n : Nat} {x : Int} : x ∈ ints n ↔ 0 ≤ x ∧ x.toNat < n := by
  unfold ints
  rw [List.mem_map]
  constructor
  · rintro ⟨i, hi, rfl⟩
    rw [List.mem_range] at hi
    omega
  · rintro ⟨h1, h2⟩
    exact ⟨x.toNat, List.mem_range.2 h2, by omega⟩
theorem ints_rise (n : Nat) : (ints n).Pairwise (· < ·) := by
  unfold ints
  rw [List.pairwise_map]
  exact List.pairwise_lt_range.imp fun h => by omega
theorem ints_succ (n : Nat) : ints (n + 1) = ints n ++ [(n : Int)] := by simp [ints, List.range_succ]

/-! ### Bounds on the bits -/
theorem inner_bd {most why : Int} {b : Nat → Nat → Int} (hw : 0 ≤ why) : ∀ (M : List Int) (p : Nat) (kept last : Int) (ws : Nat → Int), (M.Pairwise (· ≠ ·)) → (∀ x ∈ M, 0 ≤ x) → (∀ i, 0 ≤ ws i ∧ ws i < 2 * why) → (∀ x ∈ M, ws x.toNat < why) → ∀ i, 0 ≤ inner most why b p M kept last ws i ∧ inner most why b p M kept last ws i < 2 * why := by
  intro M
  induction M with
  | nil => intro p kept last ws _ _ h _ i; exact h i
  | cons x M ih =>
    intro p kept last ws hp h0 h h2 i
    unfold inner
    have hp2 := List.pairwise_cons.1 hp
    split
    · refine ih _ _ _ _ hp2.2 (fun y hy => h0 y (List.mem_cons_of_mem _ hy)) (fun j => ?_) (fun y hy => ?_) i
      · unfold updW
        split
        · have := h2 x (by simp); have := h x.toNat; omega
        · exact h j
      · unfold updW
        have hne := hp2.1 y hy
        have := h0 y (List.mem_cons_of_mem _ hy)
        have := h0 x (by simp)
        rw [if_neg (by omega)]
        exact h2 y (List.mem_cons_of_mem _ hy)
    · exact ih _ _ _ _ hp2.2 (fun y hy => h0 y (List.mem_cons_of_mem _ hy)) h (fun y hy => h2 y (List.mem_cons_of_mem _ hy)) i
theorem partsW_bd {tm : Nat → Int} {M : List Int} {most : Nat → Int} (hp : M.Pairwise (· ≠ ·)) (h0 : ∀ x ∈ M, 0 ≤ x) : ∀ k i, 0 ≤ partsW tm M most k i ∧ partsW tm M most k i < 2 ^ k := by
  intro k
  induction k with
  | zero => intro i; exact ⟨Int.le_refl _, show (0 : Int) < 2 ^ 0 by decide⟩
  | succ k ih =>
    intro i
    have h2 : (2 : Int) ^ (k + 1) = 2 * 2 ^ k := by rw [Int.pow_succ]; omega
    have hpos : (0 : Int) < 2 ^ k := Int.pow_pos (by decide)
    rw [h2]
    exact inner_bd (by omega) M 0 0 0 _ hp h0 (fun j => by have := ih j; omega) (fun x _ => (ih _).2) i

/-! ### In memory -/
/-- Block g is a row of what is kept: names nm, bits ws. -/
def KB (w : World) (g n : Nat) (nm : Nat → ByteArray) (ws : Nat → Int) : Prop :=
  ∃ cs : Array Value, Blk w g 58 cs ∧ n * 2 ≤ cs.size ∧ ∀ i, i < n → cs[i * 2]? = some (.string (nm i)) ∧ cs[i * 2 + 1]? = some (.int .u8 (ws i))
section
variable {S : Nat → Prop} {w w' : World} {g n : Nat} {nm : Nat → ByteArray} {ws : Nat → Int}
theorem KB.mod (h : KB w g n nm ws) (m : Mod S w w') (hn : ¬ S g) : KB w' g n nm ws := by
  obtain ⟨cs, h1, h2⟩ := h
  exact ⟨cs, h1.mod m hn, h2⟩
theorem KB.name (h : KB w g n nm ws) {i : Nat} (hi : i < n) : w.cell? ⟨g, i * 2, none⟩ = some (.string (nm i)) := by
  obtain ⟨cs, h1, _, h2⟩ := h
  rw [h1.cell]; exact (h2 i hi).1
theorem KB.why (h : KB w g n nm ws) {i : Nat} (hi : i < n) : w.cell? ⟨g, i * 2 + 1, none⟩ = some (.int .u8 (ws i)) := by
  obtain ⟨cs, h1, _, h2⟩ := h
  rw [h1.cell]; exact (h2 i hi).2
theorem KB.free (h : KB w g n nm ws) (i : Nat) : w.frozen? ⟨g, i, none⟩ = false := by
  obtain ⟨cs, h1, _⟩ := h
  exact h1.free i
theorem KB.lt (h : KB w g n nm ws) : g < w.heap.size := by
  obtain ⟨cs, h1, _⟩ := h
  exact h1.lt
theorem KB.put (h : KB w g n nm ws) {i : Nat} (hi : i < n) (v : Int) : KB (w.setCell ⟨g, i * 2 + 1, none⟩ (.int .u8 v)) g n nm (updW ws i v) := by
  obtain ⟨cs, h1, h2, h3⟩ := h
  refine ⟨_, h1.put _ _, by simpa using h2, fun j hj => ?_⟩
  obtain ⟨a1, a2⟩ := h3 j hj
  unfold updW
  constructor
  · rw [Array.getElem?_setIfInBounds_ne (by omega)]; exact a1
  · by_cases hji : j = i
    · subst hji
      rw [if_pos rfl, Array.getElem?_setIfInBounds_self_of_lt (by omega)]
    · rw [if_neg hji, Array.getElem?_setIfInBounds_ne (by omega)]; exact a2
theorem KB.putName (h : KB w g n nm ws) {i : Nat} (hi : i < n) (s : ByteArray) : KB (w.setCell ⟨g, i * 2, none⟩ (.string s)) g n (fun j => if j = i then s else nm j) ws := by
  obtain ⟨cs, h1, h2, h3⟩ := h
  refine ⟨_, h1.put _ _, by simpa using h2, fun j hj => ?_⟩
  obtain ⟨a1, a2⟩ := h3 j hj
  constructor
  · show _ = some (Value.string (if j = i then s else nm j))
    by_cases hji : j = i
    · subst hji
      rw [if_pos rfl, Array.getElem?_setIfInBounds_self_of_lt (by omega)]
    · rw [if_neg hji, Array.getElem?_setIfInBounds_ne (by omega)]; exact a1
  · rw [Array.getElem?_setIfInBounds_ne (by omega)]; exact a2
theorem KB.congr {nm' : Nat → ByteArray} {ws' : Nat → Int} (h : KB w g n nm ws) (h1 : ∀ i, i < n → nm i = nm' i) (h2 : ∀ i, i < n → ws i = ws' i) : KB w g n nm' ws' := by
  obtain ⟨cs, a1, a2, a3⟩ := h
  exact ⟨cs, a1, a2, fun i hi => by rw [← h1 i hi, ← h2 i hi]; exact a3 i hi⟩
end
theorem own_blk {w : World} {base g n s : Nat} {e : TypeId} {xs : List Value} (h : w.ownsRow base e s (.slice (some ⟨g, 0, none⟩) n n) n xs) : Blk w g e xs.toArray := by
  rcases h.2 with ⟨hv, _⟩ | ⟨g', cap, cur, hv, _, hb, _, _, hcs, h4⟩
  · cases hv
  · injection hv with hv h5 h6
    injection hv with hv
    injection hv with hv
    subst hv h6
    have hb : Blk w g e cur := hb
    have hl : (cur.toList.take (n * s)).length = cur.toList.length := by rw [List.length_take, Array.length_toList]; omega
    have : cur = xs.toArray := by
      apply Array.ext'
      rw [← h4, List.take_of_length_le (by rw [Array.length_toList]; omega)]
    rw [← this]; exact hb
theorem kept_info : (Try.prog.info? 58).map (fun i => (i.zero, i.size, i.bytes)) = some (some (.agg #[.string ⟨#[]⟩, .int .u8 0]), 2, 24) := by kernel_rfl
theorem int_info : (Try.prog.info? 3).map (fun i => (i.zero, i.size, i.bytes)) = some (some (.int .i64 0), 1, 8) := by kernel_rfl
theorem made_kept (w : World) (g n : Nat) (h : Blk w g 58 (madeCells (Value.agg #[.string ⟨#[]⟩, .int .u8 0]).cells (n * 2))) : KB w g n (fun _ => ⟨#[]⟩) (fun _ => 0) := by
  have hz : (Value.agg #[.string ⟨#[]⟩, .int .u8 0]).cells = #[.string ⟨#[]⟩, .int .u8 0] := by kernel_rfl
  rw [hz] at h
  refine ⟨_, h, by simp [madeCells], fun i hi => ⟨?_, ?_⟩⟩
  · rw [Array.getElem?_eq_getElem (by simp [madeCells]; omega)]
    simp [madeCells]
  · rw [Array.getElem?_eq_getElem (by simp [madeCells]; omega)]
    simp [madeCells]
theorem made_int (n : Nat) : madeCells (Value.int .i64 0).cells (n * 1) = (List.replicate n (Value.int .i64 0)).toArray := by
  rw [Nat.mul_one]
  apply Array.ext
  · simp [madeCells]
  · intro i h1 h2
    simp [madeCells, Value.cells, Nat.mod_one]
end Go.Proofs.Ytoncjoelkenjnaa.PL
