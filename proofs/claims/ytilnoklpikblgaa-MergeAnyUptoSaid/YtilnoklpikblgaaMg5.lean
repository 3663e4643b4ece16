/-
  The rows in another order; a row gone through beside what all of them became: in plain Lean. No program in sight.
-/
import Derived.Test.YtilnoklpikblgaaMg4
namespace Go.En
theorem flat_rev (D : List (List Entry)) : D.reverse.flatten.Perm D.flatten := by
  induction D with
  | nil => simp
  | cons r R ih =>
    rw [List.reverse_cons, List.flatten_append, List.flatten_cons]
    refine (List.Perm.append_right _ ih).trans ?_
    simp only [List.flatten_nil, List.append_nil, List.flatten_cons]
    exact List.perm_append_comm
theorem all_rev0 {D : List (List Entry)} (h : allE D = 0) : allE D.reverse = 0 ∧ allL D.reverse = allL D := by
  obtain ⟨h1, h2, h3, h4, h5⟩ := all_zero h
  refine all_ok (by simpa using h1) (rowsE_zero.2 (fun r hr => h2 r (by simpa using hr))) ?_ (h4.trans (flat_rev D).symm) h5
  rw [(flat_rev D).length_eq]; omega
theorem all_rev (D : List (List Entry)) : allE D = 0 ↔ allE D.reverse = 0 :=
  ⟨fun h => (all_rev0 h).1, fun h => by have := (all_rev0 h).1; rwa [List.reverse_reverse] at this⟩
theorem drop_ne {a : List Entry} {k : Nat} {x : Entry} (hk : k < a.length) (hx : x ∈ a.drop k) (hn : x ≠ rec a k) : x ∈ a.drop (k + 1) := by
  rw [drop_next hk] at hx
  rcases List.mem_cons.1 hx with h | h
  · exact absurd h hn
  · exact h
theorem scan_hit {a r : List Entry} (hr : r.Pairwise less) {k t : Nat} (hk : k < a.length) (ht : t < r.length) (h : ∀ x ∈ r.drop t, x ∈ a.drop k) (he : rec a k = rec r t) : ∀ x ∈ r.drop (t + 1), x ∈ a.drop (k + 1) := fun x hx => by
  have hd := drop_next ht
  refine drop_ne hk (h x (by rw [hd]; exact List.mem_cons_of_mem _ hx)) (fun e => ?_)
  have hp := hr.sublist (List.drop_sublist t r)
  rw [hd] at hp
  have := (List.pairwise_cons.1 hp).1 x hx
  rw [e, he] at this
  exact less_irrefl _ this
theorem scan_miss {a r : List Entry} (ha : a.Pairwise less) (hr : r.Pairwise less) {k t : Nat} (hk : k < a.length) (ht : t < r.length) (h : ∀ x ∈ r.drop t, x ∈ a.drop k) (he : ¬ rec a k = rec r t) : ∀ x ∈ r.drop t, x ∈ a.drop (k + 1) := fun x hx => by
  refine drop_ne hk (h x hx) (fun e => ?_)
  have hd := drop_next ht
  have h0 := h (rec r t) (by rw [hd]; simp)
  have h1 := drop_ne hk h0 (fun e => he e.symm)
  have hpa := ha.sublist (List.drop_sublist k a)
  rw [drop_next hk] at hpa
  have h2 := (List.pairwise_cons.1 hpa).1 _ h1
  rw [hd] at hx
  rcases List.mem_cons.1 hx with h3 | h3
  · exact he (by rw [← e, h3])
  · have hp := hr.sublist (List.drop_sublist t r)
    rw [hd] at hp
    have h4 := (List.pairwise_cons.1 hp).1 x h3
    rw [e] at h4
    exact less_asymm h2 h4
theorem scan_end {a r : List Entry} {t : Nat} (h : ∀ x ∈ r.drop t, x ∈ a.drop a.length) (ht : t ≤ r.length) : t = r.length := by
  rcases Nat.lt_or_ge t r.length with h1 | h1
  · have := h (rec r t) (by rw [drop_next h1]; simp)
    rw [List.drop_length] at this
    simp at this
  · omega
end Go.En
