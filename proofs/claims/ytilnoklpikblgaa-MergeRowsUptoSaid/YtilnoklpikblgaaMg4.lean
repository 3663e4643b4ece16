/-
  From a key on; what the cursor goes through: in plain Lean. No program in sight.
-/
import Derived.Test.YtilnoklpikblgaaMg3
namespace Go.En
def newE (D : List (List Entry)) (q : Int) (k : List UInt8) : Nat := if liveE D q ≠ 0 then liveE D q else if 256 < k.length then 3 else 0
def ge (k : List UInt8) (x : Entry) : Bool := !Op.bytesLess x.key k
def newL (D : List (List Entry)) (q : Int) (k : List UInt8) : List Entry := if newE D q k = 0 then (liveL D q).filter (ge k) else []
theorem new_live {D : List (List Entry)} {q : Int} {k : List UInt8} (h : liveE D q ≠ 0) : newE D q k = liveE D q ∧ newL D q k = [] := by
  have e : newE D q k = liveE D q := if_pos h
  exact ⟨e, if_neg (by omega)⟩
theorem new_text {D : List (List Entry)} {q : Int} {k : List UInt8} (h : liveE D q = 0) (h2 : 256 < k.length) : newE D q k = 3 ∧ newL D q k = [] := by
  have e : newE D q k = 3 := by rw [newE, if_neg (by omega), if_pos h2]
  exact ⟨e, if_neg (by omega)⟩
theorem new_ok {D : List (List Entry)} {q : Int} {k : List UInt8} (h : liveE D q = 0) (h2 : ¬ 256 < k.length) : newE D q k = 0 ∧ newL D q k = (liveL D q).filter (ge k) := by
  have e : newE D q k = 0 := by rw [newE, if_neg (by omega), if_neg h2]
  exact ⟨e, if_pos e⟩
theorem liveL_rises (D : List (List Entry)) (q : Int) : (liveL D q).Pairwise less := by
  unfold liveL
  split
  · rename_i h
    have h0 : allE D = 0 := Decidable.not_not.1 (fun h2 => by rw [(live_bad (q := q) h2).1] at h; exact h2 h)
    exact live_rises (all_zero h0).2.2.2.2 q
  · exact List.Pairwise.nil
theorem liveL_len (D : List (List Entry)) (q : Int) : (liveL D q).length ≤ 16384 := by
  unfold liveL
  split
  · rename_i h
    have h0 : allE D = 0 := Decidable.not_not.1 (fun h2 => by rw [(live_bad (q := q) h2).1] at h; exact h2 h)
    obtain ⟨_, _, h3, h4, _⟩ := all_zero h0
    have := h4.length_eq
    exact Nat.le_trans (List.length_filter_le _ _) (by omega)
  · simp
theorem less_key {a b : Entry} (h : less a b) : a.key = b.key ∨ bl a.key b.key := by
  unfold less at h
  split at h
  · exact .inl (by assumption)
  · exact .inr h
theorem ge_next {a b : Entry} {k : List UInt8} (h : less a b) (hk : ge k a = true) : ge k b = true := by
  have hk' : ¬ bl a.key k := by simpa [ge, bl] using hk
  have : ¬ bl b.key k := fun hb => by
    rcases less_key h with e | e
    · exact hk' (by rw [e]; exact hb)
    · exact hk' (bl_trans e hb)
  simpa [ge, bl] using this
/-- In what rises, those from a key on are an end. -/
theorem drop_filter {l : List Entry} (hs : l.Pairwise less) {k : List UInt8} {j : Nat} (hj : j ≤ l.length) (h1 : ∀ i, i < j → ge k (rec l i) = false) (h2 : j = l.length ∨ ge k (rec l j) = true) : l.filter (ge k) = l.drop j := by
  have e : l.filter (ge k) = (l.take j ++ l.drop j).filter (ge k) := by rw [List.take_append_drop]
  rw [e, List.filter_append]
  have e1 : (l.take j).filter (ge k) = [] := List.filter_eq_nil_iff.2 (fun x hx => by
    obtain ⟨i, hi, rfl⟩ := List.getElem_of_mem hx
    have hi' : i < j := by rw [List.length_take] at hi; omega
    rw [List.getElem_take, rec_eq (by omega), h1 i hi']
    decide)
  have e2 : (l.drop j).filter (ge k) = l.drop j := List.filter_eq_self.2 (fun x hx => by
    obtain ⟨i, hi, rfl⟩ := List.getElem_of_mem hx
    rw [List.length_drop] at hi
    rw [List.getElem_drop, rec_eq (by omega)]
    rcases h2 with h2 | h2
    · omega
    · rcases Nat.eq_zero_or_pos i with h | h
      · subst h; exact h2
      · exact ge_next (rises_at hs (by omega) (by omega)) h2)
  rw [e1, e2, List.nil_append]
theorem gefilt_yes {l : List Entry} {k : List UInt8} {i : Nat} (h : i < l.length) (hg : ge k (rec l i) = true) : (l.take (i + 1)).filter (ge k) = (l.take i).filter (ge k) ++ [rec l i] := by
  rw [take_snoc h, List.filter_append, List.filter_cons_of_pos hg]; rfl
theorem gefilt_no {l : List Entry} {k : List UInt8} {i : Nat} (h : i < l.length) (hg : ge k (rec l i) = false) : (l.take (i + 1)).filter (ge k) = (l.take i).filter (ge k) := by
  rw [take_snoc h, List.filter_append, List.filter_cons_of_neg (by rw [hg]; decide)]; simp
theorem new_fact (D : List (List Entry)) (q : Int) (k : List UInt8) : liveE D q = newE D q k ∨ (liveE D q = 0 ∧ newE D q k = 3 ∧ 256 < k.length) := by
  unfold newE
  split
  · exact .inl rfl
  · split
    · exact .inr ⟨by omega, rfl, by assumption⟩
    · left; omega
theorem new_zero {D : List (List Entry)} {q : Int} {k : List UInt8} (h : newE D q k = 0) : liveE D q = 0 ∧ newL D q k = (liveL D q).filter (ge k) := by
  rcases new_fact D q k with h1 | ⟨_, h1, _⟩
  · exact ⟨by omega, if_pos h⟩
  · omega
theorem liveL_are (D : List (List Entry)) (q : Int) : ∀ x ∈ liveL D q, x.gone = false ∧ x.seq ≤ q := fun x hx => by
  unfold liveL at hx
  split at hx
  · obtain ⟨_, h1, h2⟩ := mem_live.1 hx
    exact ⟨by simpa using h2, h1.1⟩
  · simp at hx
theorem drop_next {l : List Entry} {i : Nat} (h : i < l.length) : l.drop i = rec l i :: l.drop (i + 1) := by
  rw [List.drop_eq_getElem_cons h, rec_eq h]
end Go.En
