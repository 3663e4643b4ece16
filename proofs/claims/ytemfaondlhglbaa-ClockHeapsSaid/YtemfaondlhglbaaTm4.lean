/-
  Timers: what is due stands at the beginning; both parts may be. No program in sight.
-/
import Derived.Test.YtemfaondlhglbaaTm3
namespace Go.Tm
theorem due_split {l : List Timer} {m : Int} (h : checkE l = 0) : ∃ i, i ≤ l.length ∧ now l m = l.take i ∧ later l m = l.drop i ∧ (∀ j, j < i → (rec l j).at_ ≤ m) ∧ (∀ j, i ≤ j → j < l.length → m < (rec l j).at_) := by
  obtain ⟨_, hg⟩ := check_zero h
  have hle : l.findIdx (fun t => decide (m < t.at_)) ≤ l.length := List.findIdx_le_length
  have h1 : ∀ j, j < l.findIdx (fun t => decide (m < t.at_)) → j < l.length → (rec l j).at_ ≤ m := fun j hj hl => by
    have := List.not_of_lt_findIdx hj
    rw [rec_eq hl] at this
    simp at this; omega
  have h2 : ∀ j, l.findIdx (fun t => decide (m < t.at_)) ≤ j → j < l.length → m < (rec l j).at_ := fun j hj hl => by
    have hx := List.findIdx_getElem (xs := l) (p := fun t => decide (m < t.at_)) (w := by omega)
    rw [rec_eq (by omega)] at hx
    have h3 := at_le hg j _ hj hl
    simp at hx; omega
  obtain ⟨e1, e2⟩ := split_at h1 h2
  exact ⟨_, hle, e1, e2, fun j hj => h1 j hj (by omega), h2⟩
theorem rec_take {l : List Timer} {i j : Nat} (h : j < i) (hi : i ≤ l.length) : rec (l.take i) j = rec l j := by
  rw [rec, rec, List.getD_eq_getElem?_getD, List.getD_eq_getElem?_getD, List.getElem?_take, if_pos h]
theorem rec_drop {l : List Timer} {i j : Nat} : rec (l.drop i) j = rec l (i + j) := by
  rw [rec, rec, List.getD_eq_getElem?_getD, List.getD_eq_getElem?_getD, List.getElem?_drop]
theorem check_take {l : List Timer} {i : Nat} (h : checkE l = 0) (hi : i ≤ l.length) : checkE (l.take i) = 0 := by
  obtain ⟨hl, hg⟩ := check_zero h
  have hlt : (l.take i).length = i := by rw [List.length_take]; omega
  refine check_ok (by omega) fun j hj => ?_
  rw [hlt] at hj
  obtain ⟨g1, g2, g3⟩ := hg j (by omega)
  refine ⟨by rw [rec_take hj hi]; exact g1, by rw [rec_take hj hi, List.take_take, Nat.min_eq_left (by omega)]; exact g2, ?_⟩
  rcases g3 with g3 | g3
  · exact .inl g3
  · exact .inr (by rw [rec_take hj hi, rec_take (by omega) hi]; exact g3)
theorem check_drop {l : List Timer} {i : Nat} (h : checkE l = 0) : checkE (l.drop i) = 0 := by
  obtain ⟨hl, hg⟩ := check_zero h
  refine check_ok (by rw [List.length_drop]; omega) fun j hj => ?_
  rw [List.length_drop] at hj
  obtain ⟨g1, g2, g3⟩ := hg (i + j) (by omega)
  refine ⟨by rw [rec_drop]; exact g1, fun ⟨t, ht, hs⟩ => g2 ⟨t, ?_, by rw [hs, rec_drop]⟩, ?_⟩
  · rw [List.take_drop] at ht
    exact List.mem_of_mem_drop ht
  · rcases Nat.eq_zero_or_pos j with h0 | h0
    · exact .inl h0
    · refine .inr ?_
      rw [rec_drop, rec_drop]
      rcases g3 with g3 | g3
      · omega
      · rwa [show i + j - 1 = i + (j - 1) by omega] at g3
theorem rec_last (l : List Timer) (x : Timer) : rec (l ++ [x]) l.length = x := by simp [rec]
end Go.Tm
