/-
  Timers: what is due. No program in sight.
-/
import Derived.Test.YtemfaondlhglbaaTm
namespace Go.Tm
theorem at_le {l : List Timer} (h : ∀ i, i < l.length → good l i) : ∀ j i, i ≤ j → j < l.length → (rec l i).at_ ≤ (rec l j).at_
  | 0, i, hi, _ => by rw [show i = 0 by omega]; exact Int.le_refl _
  | j + 1, i, hi, hj => by
    rcases Nat.lt_or_ge i (j + 1) with h1 | h1
    · have h2 := at_le h j i (by omega) (by omega)
      have h3 := (h (j + 1) hj).2.2
      rcases h3 with h3 | h3
      · omega
      · rw [Nat.add_sub_cancel] at h3
        rcases h3 with h3 | h3 <;> omega
    · rw [show i = j + 1 by omega]; exact Int.le_refl _
def dueE (l : List Timer) (m : Int) : Nat := if checkE l ≠ 0 then checkE l else if m < 0 ∨ 1099511627776 < m then 2 else 0
def now (l : List Timer) (m : Int) : List Timer := l.filter fun t => decide (t.at_ ≤ m)
def later (l : List Timer) (m : Int) : List Timer := l.filter fun t => !decide (t.at_ ≤ m)
def dueL (l : List Timer) (m : Int) : List Timer := if dueE l m = 0 then now l m else []
def restL (l : List Timer) (m : Int) : List Timer := if dueE l m = 0 then later l m else []
theorem due_check {l : List Timer} {m : Int} (h : checkE l ≠ 0) : dueE l m = checkE l ∧ dueL l m = [] ∧ restL l m = [] := by
  have e : dueE l m = checkE l := if_pos h
  exact ⟨e, if_neg (by omega), if_neg (by omega)⟩
theorem due_arg {l : List Timer} {m : Int} (h : checkE l = 0) (h1 : m < 0 ∨ 1099511627776 < m) : dueE l m = 2 ∧ dueL l m = [] ∧ restL l m = [] := by
  have e : dueE l m = 2 := by rw [dueE, if_neg (by omega), if_pos h1]
  exact ⟨e, if_neg (by omega), if_neg (by omega)⟩
theorem due_ok {l : List Timer} {m : Int} (h : checkE l = 0) (h1 : ¬ (m < 0 ∨ 1099511627776 < m)) : dueE l m = 0 ∧ dueL l m = now l m ∧ restL l m = later l m := by
  have e : dueE l m = 0 := by rw [dueE, if_neg (by omega), if_neg h1]
  exact ⟨e, if_pos e, if_pos e⟩
theorem split_at {l : List Timer} {m : Int} {i : Nat} (h1 : ∀ j, j < i → j < l.length → (rec l j).at_ ≤ m) (h2 : ∀ j, i ≤ j → j < l.length → m < (rec l j).at_) : now l m = l.take i ∧ later l m = l.drop i := by
  have a1 : ∀ t ∈ l.take i, t.at_ ≤ m := fun t ht => by
    obtain ⟨j, hj, rfl⟩ := List.getElem_of_mem ht
    rw [List.length_take] at hj
    rw [List.getElem_take, rec_eq (by omega)]; exact h1 j (by omega) (by omega)
  have a2 : ∀ t ∈ l.drop i, m < t.at_ := fun t ht => by
    obtain ⟨j, hj, rfl⟩ := List.getElem_of_mem ht
    rw [List.length_drop] at hj
    rw [List.getElem_drop, rec_eq (by omega)]; exact h2 (i + j) (by omega) (by omega)
  have e : l = l.take i ++ l.drop i := (List.take_append_drop i l).symm
  constructor
  · rw [now]
    conv => lhs; rw [e]
    rw [List.filter_append, List.filter_eq_self.2 (fun t ht => decide_eq_true (a1 t ht)), List.filter_eq_nil_iff.2 (fun t ht => by have := a2 t ht; simp; omega), List.append_nil]
  · rw [later]
    conv => lhs; rw [e]
    rw [List.filter_append, List.filter_eq_nil_iff.2 (fun t ht => by have := a1 t ht; simp; omega), List.filter_eq_self.2 (fun t ht => by have := a2 t ht; simp; omega), List.nil_append]
theorem take_snoc {l : List Timer} {i : Nat} (h : i < l.length) : l.take (i + 1) = l.take i ++ [rec l i] := by
  rw [List.take_add_one, List.getElem?_eq_getElem h, rec_eq h]; rfl
def dropped (t : Timer) (c : Int) (s : List UInt8) : Prop := t.cas = c ∧ t.stage = s
instance (t : Timer) (c : Int) (s : List UInt8) : Decidable (dropped t c s) := inferInstanceAs (Decidable (_ ∧ _))
def dropL (l : List Timer) (c : Int) (s : List UInt8) : List Timer := if checkE l = 0 then l.filter (fun w => !decide (dropped w c s)) else []
theorem drop_check {l : List Timer} {c : Int} {s : List UInt8} (h : checkE l ≠ 0) : dropL l c s = [] := if_neg h
theorem drop_ok {l : List Timer} {c : Int} {s : List UInt8} (h : checkE l = 0) : dropL l c s = l.filter (fun w => !decide (dropped w c s)) := if_pos h
end Go.Tm
