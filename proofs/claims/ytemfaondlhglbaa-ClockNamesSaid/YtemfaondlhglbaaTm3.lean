/-
  Timers: one more, at its place. No program in sight.
-/
import Derived.Test.YtemfaondlhglbaaTm2
namespace Go.Tm
/-- Was the timer put ahead of one of the first 'i'? -/
def insD (l : List Timer) (t : Timer) : Nat → Bool
  | 0 => false
  | i + 1 => insD l t i || decide (ahead t (rec l i))
/-- The list so far. -/
def insO (l : List Timer) (t : Timer) : Nat → List Timer
  | 0 => []
  | i + 1 => (insO l t i ++ if insD l t i = false ∧ ahead t (rec l i) then [t] else []) ++ [rec l i]
def ins (l : List Timer) (t : Timer) : List Timer := insO l t l.length ++ if insD l t l.length = false then [t] else []
theorem insO_len (l : List Timer) (t : Timer) : ∀ i, (insO l t i).length ≤ 2 * i
  | 0 => Nat.le_refl _
  | i + 1 => by
    have := insO_len l t i
    rw [insO, List.length_append, List.length_append]
    split <;> simp <;> omega
theorem ins_none {l : List Timer} {t : Timer} : ∀ {i : Nat}, i ≤ l.length → (∀ j, j < i → ¬ ahead t (rec l j)) → insD l t i = false ∧ insO l t i = l.take i
  | 0, _, _ => ⟨rfl, rfl⟩
  | i + 1, hi, h => by
    obtain ⟨h1, h2⟩ := ins_none (l := l) (t := t) (i := i) (by omega) (fun j hj => h j (by omega))
    have h3 := h i (by omega)
    refine ⟨by rw [insD, h1]; simp [h3], ?_⟩
    rw [insO, h2, if_neg (fun h4 => h3 h4.2), List.append_nil, take_snoc (by omega)]
theorem ins_some {l : List Timer} {t : Timer} {p : Nat} (hp : p < l.length) (ha : ahead t (rec l p)) (h : ∀ j, j < p → ¬ ahead t (rec l j)) : ∀ k, p + 1 + k ≤ l.length → insD l t (p + 1 + k) = true ∧ insO l t (p + 1 + k) = l.take p ++ t :: (l.take (p + 1 + k)).drop p
  | 0, _ => by
    obtain ⟨h1, h2⟩ := ins_none (l := l) (t := t) (i := p) (by omega) h
    refine ⟨by rw [Nat.add_zero, insD, h1]; simp [ha], ?_⟩
    rw [Nat.add_zero, insO, h2, if_pos ⟨h1, ha⟩, take_snoc hp, List.drop_append_of_le_length (by rw [List.length_take]; omega), List.drop_of_length_le (by rw [List.length_take]; omega)]
    simp
  | k + 1, hk => by
    obtain ⟨h1, h2⟩ := ins_some hp ha h k (by omega)
    refine ⟨by rw [← Nat.add_assoc, insD, h1]; rfl, ?_⟩
    rw [← Nat.add_assoc, insO, h2, if_neg (fun h4 => by rw [h1] at h4; cases h4.1), List.append_nil, take_snoc (by omega), List.drop_append_of_le_length (by rw [List.length_take]; omega)]
    simp
/-- Where a timer goes. -/
theorem ins_at {l : List Timer} {t : Timer} {p : Nat} (hp : p ≤ l.length) (ha : p < l.length → ahead t (rec l p)) (h : ∀ j, j < p → ¬ ahead t (rec l j)) : ins l t = l.take p ++ t :: l.drop p := by
  rcases Nat.lt_or_ge p l.length with h1 | h1
  · obtain ⟨e1, e2⟩ := ins_some h1 (ha h1) h (l.length - (p + 1)) (by omega)
    rw [show p + 1 + (l.length - (p + 1)) = l.length by omega] at e1 e2
    rw [ins, e2, e1, if_neg (by simp), List.append_nil, List.take_length]
  · obtain ⟨e1, e2⟩ := ins_none (l := l) (t := t) (i := l.length) (Nat.le_refl _) (fun j hj => h j (by omega))
    rw [ins, e2, if_pos e1, List.take_length, List.take_of_length_le h1, List.drop_of_length_le h1]
def addE (l : List Timer) (t : Timer) : Nat := if checkE l ≠ 0 then checkE l else if ¬ may t ∨ has l t.seq then 8 else if l.length = 256 then 4 else 0
def addL (l : List Timer) (t : Timer) : List Timer := if addE l t = 0 then ins l t else []
theorem add_check {l : List Timer} {t : Timer} (h : checkE l ≠ 0) : addE l t = checkE l ∧ addL l t = [] := by
  have e : addE l t = checkE l := if_pos h
  exact ⟨e, if_neg (by omega)⟩
theorem add_bad {l : List Timer} {t : Timer} (h : checkE l = 0) (h1 : ¬ may t ∨ has l t.seq) : addE l t = 8 ∧ addL l t = [] := by
  have e : addE l t = 8 := by rw [addE, if_neg (by omega), if_pos h1]
  exact ⟨e, if_neg (by omega)⟩
theorem add_many {l : List Timer} {t : Timer} (h : checkE l = 0) (h1 : ¬ (¬ may t ∨ has l t.seq)) (h2 : l.length = 256) : addE l t = 4 ∧ addL l t = [] := by
  have e : addE l t = 4 := by rw [addE, if_neg (by omega), if_neg h1, if_pos h2]
  exact ⟨e, if_neg (by omega)⟩
theorem add_ok {l : List Timer} {t : Timer} (h : checkE l = 0) (h1 : ¬ (¬ may t ∨ has l t.seq)) (h2 : ¬ l.length = 256) : addE l t = 0 ∧ addL l t = ins l t := by
  have e : addE l t = 0 := by rw [addE, if_neg (by omega), if_neg h1, if_neg h2]
  exact ⟨e, if_pos e⟩
end Go.Tm
