/-
  The newest of each key, marked one behind the other. No program in sight.
-/
import Derived.Test.YtilnoklpikblgaaMg
namespace Go.En
theorem contig {l : List Entry} (hs : l.Pairwise less) {j i : Nat} (hj : j < i) (hi : i < l.length) (hk : (rec l j).key = (rec l i).key) : (rec l (i - 1)).key = (rec l i).key := by
  rcases Nat.eq_or_lt_of_le (show j ≤ i - 1 by omega) with h | h
  · rw [← h]; exact hk
  · have h1 := rises_at hs h (by omega)
    have h2 := rises_at hs (show i - 1 < i by omega) hi
    by_cases e : (rec l (i - 1)).key = (rec l i).key
    · exact e
    · unfold less at h1 h2
      rw [if_neg e] at h2
      rw [hk, if_neg (fun e2 => e e2.symm)] at h1
      exact absurd h2 (bl_asymm h1)
/-- The key that is looked at ahead of place 'i'. -/
def keyAt (l : List Entry) : Nat → List UInt8
  | 0 => []
  | i + 1 => (rec l i).key
/-- Was one of the first 'i' with this key counted? -/
def seen (l : List Entry) (q : Int) (i : Nat) (k : List UInt8) : Prop := ∃ j, j < i ∧ hit (rec l j) k q
instance (l : List Entry) (q : Int) (i : Nat) (k : List UInt8) : Decidable (seen l q i k) := decidable_of_iff (∃ j ∈ List.range i, hit (rec l j) k q) (by simp [seen])
theorem seen_zero (l : List Entry) (q : Int) (k : List UInt8) : ¬ seen l q 0 k := fun ⟨j, hj, _⟩ => by omega
theorem seen_new {l : List Entry} (hs : l.Pairwise less) {q : Int} {i : Nat} (hi : i < l.length) (h : i = 0 ∨ ¬ (rec l i).key = keyAt l i) : ¬ seen l q i (rec l i).key := fun ⟨j, hj, hh⟩ => by
  rcases h with h | h
  · omega
  · obtain ⟨k, rfl⟩ : ∃ k, i = k + 1 := ⟨i - 1, by omega⟩
    exact h (contig hs hj hi hh.1).symm
theorem seen_next {l : List Entry} {q : Int} {i : Nat} {k : List UInt8} : seen l q (i + 1) k ↔ seen l q i k ∨ hit (rec l i) k q := by
  constructor
  · rintro ⟨j, hj, hh⟩
    rcases Nat.lt_or_ge j i with h | h
    · exact .inl ⟨j, h, hh⟩
    · exact .inr (by rw [show i = j by omega]; exact hh)
  · rintro (⟨j, hj, hh⟩ | hh)
    · exact ⟨j, by omega, hh⟩
    · exact ⟨i, by omega, hh⟩
theorem top_seen {l : List Entry} (hs : l.Pairwise less) {q : Int} {i : Nat} (hi : i < l.length) : top l q (rec l i) ↔ (rec l i).seq ≤ q ∧ ¬ seen l q i (rec l i).key := by
  rw [top_at hs hi]
  exact ⟨fun ⟨h1, h2⟩ => ⟨h1, fun ⟨j, hj, hh⟩ => h2 j hj hh⟩, fun ⟨h1, h2⟩ => ⟨h1, fun j hj hh => h2 ⟨j, hj, hh⟩⟩⟩
end Go.En
namespace Go.En
section
variable {β : Type}
/-- The rows that have entries. -/
def full (Ls : List (Row β)) : List (Row β) := Ls.filter fun p => decide (p.2 ≠ [])
theorem full_flat : ∀ Ls : List (Row β), (full Ls).flatMap (·.2) = (Ls.map (·.2)).flatten
  | [] => rfl
  | p :: R => by
    have ih := full_flat R
    unfold full at ih ⊢
    rw [List.filter_cons]
    by_cases h : p.2 = []
    · rw [if_neg (by simp [h]), ih, List.map_cons, List.flatten_cons, h]; rfl
    · rw [if_pos (by simp [h]), List.flatMap_cons, ih, List.map_cons, List.flatten_cons]
theorem full_yes {Ls : List (Row β)} {i : Nat} (h : i < Ls.length) (hn : Ls[i].2 ≠ []) : full (Ls.take (i + 1)) = full (Ls.take i) ++ [Ls[i]] := by
  rw [List.take_add_one, List.getElem?_eq_getElem h, full, full, List.filter_append]
  simp [List.filter_cons, hn]
theorem full_no {Ls : List (Row β)} {i : Nat} (h : i < Ls.length) (hn : Ls[i].2 = []) : full (Ls.take (i + 1)) = full (Ls.take i) := by
  rw [List.take_add_one, List.getElem?_eq_getElem h, full, full, List.filter_append]
  simp [List.filter_cons, hn]
theorem full_len (Ls : List (Row β)) (i : Nat) : (full (Ls.take i)).length ≤ i := by
  have h := List.length_filter_le (fun p : Row β => decide (p.2 ≠ [])) (Ls.take i)
  rw [List.length_take] at h
  unfold full; omega
theorem Run.start {Ls : List (Row β)} {L : List (Row β)} (hp : L.Perm (full Ls)) (h : ∀ p ∈ Ls, p.2.Pairwise less) : Run (Ls.map (·.2)).flatten [] L := by
  refine ⟨?_, fun p hp2 => ?_, List.Pairwise.nil, fun x hx => by simp at hx⟩
  · rw [List.nil_append, ← full_flat]; exact hp.flatMap_right (·.2)
  · have hm := hp.mem_iff.1 hp2
    unfold full at hm
    obtain ⟨h1, h2⟩ := List.mem_filter.1 hm
    exact ⟨of_decide_eq_true h2, h p h1⟩
/-- How many entries a queue still has. -/
def left (L : List (Row β)) : Nat := (L.flatMap (·.2)).length
theorem left_zero {L : List (Row β)} (h : ∀ p ∈ L, p.2 ≠ []) : L.length ≤ left L := by
  induction L with
  | nil => simp [left]
  | cons p R ih =>
    have h1 := ih (fun q hq => h q (List.mem_cons_of_mem _ hq))
    have h2 := List.length_pos_iff.2 (h p (by simp))
    unfold left at *
    rw [List.flatMap_cons, List.length_append, List.length_cons]; omega
theorem Run.len {M out : List Entry} {L : List (Row β)} (h : Run M out L) : out.length + left L = M.length := by
  have := h.perm.length_eq
  rw [List.length_append] at this
  exact this
end
end Go.En
namespace Go.En
/-- Two neighbours judged as a row of their own. -/
theorem window {l : List Entry} {i : Nat} (hi : i < l.length) (h0 : ∀ j, j < i → badAt l j = 0) : checkE ((l.take (i + 1)).drop (i - 1)) = badAt l i := by
  have hlen : ((l.take (i + 1)).drop (i - 1)).length = i + 1 - (i - 1) := by rw [List.length_drop, List.length_take]; omega
  have hr : ∀ j, i - 1 + j < i + 1 → rec ((l.take (i + 1)).drop (i - 1)) j = rec l (i - 1 + j) := fun j hj => by rw [rec_drop, rec_take hj]
  rw [checkE, if_neg (by omega), hlen]
  rcases Nat.eq_zero_or_pos i with h | h
  · subst h
    have e := hr 0 (by omega)
    have e2 : badAt ((l.take (0 + 1)).drop (0 - 1)) 0 = badAt l 0 := by unfold badAt; rw [e]
    show firstBad _ 0 1 = _
    rw [firstBad, firstBad, e2]
    split <;> omega
  · have a0 : rec ((l.take (i + 1)).drop (i - 1)) 0 = rec l (i - 1) := hr 0 (by omega)
    have a1 := hr 1 (by omega)
    rw [show i - 1 + 1 = i by omega] at a1
    have hb := (bad_zero (h0 (i - 1) (by omega))).1
    have e0 : badAt ((l.take (i + 1)).drop (i - 1)) 0 = 0 := bad_ok (by rw [a0]; omega) (by omega)
    have e1 : badAt ((l.take (i + 1)).drop (i - 1)) 1 = badAt l i := by
      unfold badAt
      rw [a1, Nat.sub_self, a0]
      by_cases h5 : less (rec l (i - 1)) (rec l i)
      · simp [h5]
      · simp [h5, h]
    rw [show i + 1 - (i - 1) = 2 by omega]
    rw [firstBad, if_neg (by omega), firstBad, firstBad, e1]
    split <;> omega
end Go.En
