/-
  A chain that goes on, and a record that was turned or left out. Plain Lean.
-/
import Derived.Test.YtcoaophfojkldaaChain
namespace Go.Audit
theorem rec_left {l m : List Record} {j : Nat} (h : j < l.length) : rec (l ++ m) j = rec l j := by
  rw [rec, rec, List.getD_eq_getElem?_getD, List.getElem?_append_left h, List.getD_eq_getElem?_getD]
theorem rec_last (l : List Record) (x : Record) : rec (l ++ [x]) l.length = x := by
  rw [rec, List.getD_eq_getElem?_getD, List.getElem?_append_right (Nat.le_refl _), Nat.sub_self]; rfl
theorem before_left {l m : List Record} {j : Nat} (h : j ≤ l.length) : before (l ++ m) j = before l j := by
  unfold before
  split
  · rfl
  · rw [rec_left (by omega)]
theorem fits_left {l m : List Record} {j : Nat} (h : j < l.length) : fits (l ++ m) j ↔ fits l j := by
  unfold fits
  rw [rec_left h, before_left (by omega)]
  by_cases h0 : j = 0
  · simp [h0]
  · rw [rec_left (show j - 1 < l.length by omega)]
theorem hashed_seal (r : Record) (h b : List UInt8) : hashed { r with hash := h } b = hashed r b := rfl
theorem new_may {l : List Record} {t o : Int} {u d : List UInt8} (h1 : ¬ (t < 0 ∨ 1099511627776 < t)) (h2 : ¬ (32 < u.length ∨ 16384 < d.length)) (h3 : ¬ (o < 100 ∨ 599 < o)) : may (newR l t u d o) :=
  ⟨by show (0 : Int) ≤ (l.length : Int); omega, by show 0 ≤ t; omega, by show t ≤ _; omega, by show u.length ≤ 32; omega, by show d.length ≤ 16384; omega, by show 100 ≤ o; omega, by show o ≤ 599; omega, hashed_digest _ _⟩
theorem grows {l : List Record} {t o : Int} {u d : List UInt8} (ha : askedE l = 0) (hl : l.length ≤ 60) (h1 : ¬ (t < 0 ∨ 1099511627776 < t)) (h2 : ¬ (32 < u.length ∨ 16384 < d.length)) (h3 : ¬ (o < 100 ∨ 599 < o))
    (h5 : ¬ (0 ≤ firstI l ∨ (0 < l.length ∧ t < (rec l (l.length - 1)).at_))) : askedE (l ++ [newR l t u d o]) = 0 ∧ firstI (l ++ [newR l t u d o]) = -1 := by
  constructor
  · refine asked_ok (by rw [List.length_append, List.length_singleton]; omega) (fun r hr => ?_)
    rcases List.mem_append.1 hr with h | h
    · exact (asked_zero ha).2 r h
    · rw [List.mem_singleton.1 h]; exact new_may h1 h2 h3
  · have hf := (first_neg l).1 (by omega)
    refine first_all fun j hj => ?_
    rw [List.length_append, List.length_singleton] at hj
    rcases Nat.lt_or_ge j l.length with h | h
    · exact (fits_left h).2 (hf j h)
    · have e : j = l.length := by omega
      subst e
      refine ⟨by rw [rec_last]; rfl, ?_, by rw [rec_last, before_left (Nat.le_refl _)]; rfl⟩
      by_cases h0 : l.length = 0
      · left; exact h0
      · right
        rw [rec_last, rec_left (by omega)]
        show _ ≤ t
        omega
theorem head_last (l : List Record) (x : Record) (h : askedE (l ++ [x]) = 0) : headS (l ++ [x]) = x.hash := by
  rw [headS, if_pos h, before, if_neg (by simp), List.length_append, List.length_singleton, Nat.add_sub_cancel, rec_last]
/-- Longer than statements go through. -/
def longP (l : List Record) : Prop := if 60 < l.length then (l.length ≤ 4096 ∨ 4200 < l.length) else ∃ r ∈ l, 3000 < r.user.length ∨ 3000 < r.deed.length ∨ 3000 < r.hash.length
instance (l : List Record) : Decidable (longP l) := by unfold longP; infer_instance
theorem not_long {l : List Record} (h : ¬ longP l) : l.length ≤ 4200 ∧ (l.length ≤ 4096 → ∀ r ∈ l, r.hash.length ≤ 100000) := by
  unfold longP at h
  split at h
  · exact ⟨by omega, fun h' => by omega⟩
  · refine ⟨by omega, fun _ r hr => ?_⟩
    have : ¬ (3000 < r.user.length ∨ 3000 < r.deed.length ∨ 3000 < r.hash.length) := fun h' => h ⟨r, hr, h'⟩
    omega
theorem long_one {r : Record} (h : ¬ longP [r]) : r.hash.length ≤ 100000 := (not_long h).2 (by simp) r (by simp)

/-- One record in the place of another one. -/
theorem set_rec {l : List Record} {i j : Nat} (x : Record) (hi : i < l.length) : rec (l.set i x) j = if j = i then x else rec l j := by
  rw [rec, rec, List.getD_eq_getElem?_getD, List.getD_eq_getElem?_getD, List.getElem?_set]
  by_cases h : i = j
  · subst h; simp [hi]
  · rw [if_neg h, if_neg (fun e => h e.symm)]
theorem set_before {l : List Record} {i j : Nat} (x : Record) (hi : i < l.length) (hj : j ≤ i) : before (l.set i x) j = before l j := by
  unfold before
  split
  · rfl
  · rw [set_rec x hi, if_neg (by omega)]
theorem set_fits {l : List Record} {i j : Nat} (x : Record) (hi : i < l.length) (hj : j < i) : fits (l.set i x) j ↔ fits l j := by
  unfold fits
  rw [set_rec x hi, if_neg (by omega), set_before x hi (by omega), set_rec x hi, if_neg (by omega)]
theorem turned_first {l : List Record} {i : Nat} {x : Record} (hi : i < l.length) (hf : ∀ j, j < l.length → fits l j) (hx : x.hash ≠ hashed x (before l i)) : firstI (l.set i x) = (i : Int) := by
  refine first_at (by rw [List.length_set]; exact hi) (fun h => ?_) (fun j hj => (set_fits x hi hj).2 (hf j (by omega)))
  have := h.2.2
  rw [set_rec x hi, if_pos rfl, set_before x hi (Nat.le_refl _)] at this
  exact hx this
theorem cut_asked {l : List Record} {i : Nat} (h : askedE l = 0) : askedE (l.take i ++ l.drop (i + 1)) = 0 := by
  obtain ⟨h1, h2⟩ := asked_zero h
  refine asked_ok (by rw [List.length_append, List.length_take, List.length_drop]; omega) (fun r hr => ?_)
  rcases List.mem_append.1 hr with h | h
  · exact h2 r (List.mem_of_mem_take h)
  · exact h2 r (List.mem_of_mem_drop h)
theorem take_rec {l : List Record} {i j : Nat} (h : j < i) : rec (l.take i) j = rec l j := by
  rw [rec, rec, List.getD_eq_getElem?_getD, List.getD_eq_getElem?_getD, List.getElem?_take, if_pos h]
theorem take_fits {l : List Record} {i j : Nat} (h : j < i) : fits (l.take i) j ↔ fits l j := by
  have hb : before (l.take i) j = before l j := by
    unfold before
    split
    · rfl
    · rw [take_rec (by omega)]
  unfold fits
  rw [take_rec h, hb]
  by_cases h0 : j = 0
  · simp [h0]
  · rw [take_rec (show j - 1 < i by omega)]
theorem cut_first {l : List Record} {i : Nat} (hi : i < l.length) (hf : ∀ j, j < l.length → fits l j) : firstI (l.take i ++ l.drop (i + 1)) = if i = l.length - 1 then -1 else (i : Int) := by
  have hlt : (l.take i).length = i := by rw [List.length_take]; omega
  split
  · rename_i h
    rw [List.drop_eq_nil_of_le (by omega), List.append_nil]
    exact first_all fun j hj => (take_fits (by omega)).2 (hf j (by omega))
  · rename_i h
    have hrec : rec (l.take i ++ l.drop (i + 1)) i = rec l (i + 1) := by
      rw [rec, rec, List.getD_eq_getElem?_getD, List.getD_eq_getElem?_getD, List.getElem?_append_right (by omega), List.getElem?_drop, hlt, Nat.sub_self, Nat.add_zero]
    refine first_at (by rw [List.length_append, hlt, List.length_drop]; omega) (fun h' => ?_) (fun j hj => (fits_left (by omega)).2 ((take_fits hj).2 (hf j (by omega))))
    have h1 := h'.1
    rw [hrec, (hf (i + 1) (by omega)).1] at h1
    omega
end Go.Audit
