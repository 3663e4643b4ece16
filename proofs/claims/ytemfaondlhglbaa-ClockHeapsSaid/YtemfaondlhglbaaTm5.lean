/-
  Timers in a heap and in a list in order. No program in sight.
-/
import Derived.Test.YtemfaondlhglbaaTm4
import Derived.Test.YtemfaondlhglbaaLaneP
namespace Go.Tm
theorem ordT : Hp.Ord ahead := ⟨fun a b h1 h2 => by simp only [ahead] at h1 h2; omega, fun a b c h1 h2 h3 => by simp only [ahead] at h1 h2 h3; omega⟩
/-- What a heap's timers are, told by a list in order. -/
structure Of (L R : List Timer) : Prop where
  perm : L.Perm R
  heap : Hp.Heap ahead L L.length 0
  sorted : R.Pairwise ahead
  seqs : R.Pairwise (fun a b => a.seq ≠ b.seq)
  many : R.length ≤ 256
  mays : ∀ t ∈ R, may t
theorem Of.nil : Of [] [] := ⟨List.Perm.refl _, fun k _ h _ => absurd h (by simp), List.Pairwise.nil, List.Pairwise.nil, by simp, by simp⟩
theorem Of.len {L R : List Timer} (h : Of L R) : L.length = R.length := h.perm.length_eq
theorem Of.has {L R : List Timer} (h : Of L R) (s : Int) : has L s ↔ has R s :=
  ⟨fun ⟨t, ht, hs⟩ => ⟨t, h.perm.mem_iff.1 ht, hs⟩, fun ⟨t, ht, hs⟩ => ⟨t, h.perm.mem_iff.2 ht, hs⟩⟩
def pushE (R : List Timer) (t : Timer) : Nat := if ¬ may t ∨ has R t.seq then 8 else if R.length = 256 then 4 else 0
def pushL (R : List Timer) (t : Timer) : List Timer := if pushE R t = 0 then ins R t else R
theorem push_bad {R : List Timer} {t : Timer} (h : ¬ may t ∨ has R t.seq) : pushE R t = 8 ∧ pushL R t = R := by
  have e : pushE R t = 8 := if_pos h
  exact ⟨e, if_neg (by omega)⟩
theorem push_many {R : List Timer} {t : Timer} (h : ¬ (¬ may t ∨ has R t.seq)) (h2 : R.length = 256) : pushE R t = 4 ∧ pushL R t = R := by
  have e : pushE R t = 4 := by rw [pushE, if_neg h, if_pos h2]
  exact ⟨e, if_neg (by omega)⟩
theorem push_ok {R : List Timer} {t : Timer} (h : ¬ (¬ may t ∨ has R t.seq)) (h2 : ¬ R.length = 256) : pushE R t = 0 ∧ pushL R t = ins R t := by
  have e : pushE R t = 0 := by rw [pushE, if_neg h, if_neg h2]
  exact ⟨e, if_pos e⟩
theorem Of.pushE {L R : List Timer} (h : Of L R) (t : Timer) : pushE L t = pushE R t := by
  rw [Tm.pushE, Tm.pushE, h.len]
  simp only [h.has]
theorem ins_where (l : List Timer) (t : Timer) : ∃ p, p ≤ l.length ∧ (p < l.length → ahead t (rec l p)) ∧ (∀ j, j < p → ¬ ahead t (rec l j)) ∧ ins l t = l.take p ++ t :: l.drop p := by
  have hle : l.findIdx (fun x => decide (ahead t x)) ≤ l.length := List.findIdx_le_length
  have h1 : l.findIdx (fun x => decide (ahead t x)) < l.length → ahead t (rec l (l.findIdx (fun x => decide (ahead t x)))) := fun hl => by
    have hx := List.findIdx_getElem (xs := l) (p := fun x => decide (ahead t x)) (w := hl)
    rw [rec_eq hl] at hx
    simpa using hx
  have h2 : ∀ j, j < l.findIdx (fun x => decide (ahead t x)) → ¬ ahead t (rec l j) := fun j hj => by
    have := List.not_of_lt_findIdx hj
    rw [rec_eq (by omega)] at this
    simpa using this
  exact ⟨_, hle, h1, h2, ins_at hle h1 h2⟩
theorem ins_perm (l : List Timer) (t : Timer) : (ins l t).Perm (t :: l) := by
  obtain ⟨p, _, _, _, e⟩ := ins_where l t
  rw [e]
  refine List.perm_middle.trans ?_
  rw [List.take_append_drop]
theorem ahead_trans {a b c : Timer} (h1 : ahead a b) (h2 : ahead b c) : ahead a c := by simp only [ahead] at *; omega
theorem ins_sorted {l : List Timer} {t : Timer} (hs : l.Pairwise ahead) (hn : ¬ has l t.seq) : (ins l t).Pairwise ahead := by
  obtain ⟨p, hp, h1, h2, e⟩ := ins_where l t
  rw [e]
  have ha : ∀ a ∈ l.take p, ahead a t := fun a ha => by
    obtain ⟨j, hj, rfl⟩ := List.getElem_of_mem ha
    rw [List.length_take] at hj
    have h3 := h2 j (by omega)
    rw [List.getElem_take, rec_eq (by omega)]
    have h4 : (rec l j).seq ≠ t.seq := fun e => hn ⟨_, rec_mem (by omega), e⟩
    simp only [ahead] at h3 ⊢; omega
  have hb : ∀ b ∈ l.drop p, ahead t b := fun b hb => by
    obtain ⟨j, hj, rfl⟩ := List.getElem_of_mem hb
    rw [List.length_drop] at hj
    have h3 := h1 (by omega)
    rw [List.getElem_drop]
    rcases Nat.eq_zero_or_pos j with h0 | h0
    · subst h0; rw [rec_eq (by omega)]; simpa using h3
    · have h4 := List.pairwise_iff_getElem.1 hs p (p + j) (by omega) (by omega) (by omega)
      rw [rec_eq (by omega), rec_eq (by omega)] at h4
      rw [rec_eq (by omega)]
      exact ahead_trans h3 h4
  rw [List.pairwise_append]
  refine ⟨hs.sublist (List.take_sublist _ _), ?_, fun a h3 b h4 => ?_⟩
  · rw [List.pairwise_cons]; exact ⟨hb, hs.sublist (List.drop_sublist _ _)⟩
  · rcases List.mem_cons.1 h4 with h5 | h5
    · subst h5; exact ha a h3
    · exact ahead_trans (ha a h3) (hb b h5)
theorem ins_len (l : List Timer) (t : Timer) : (ins l t).length = l.length + 1 := by rw [(ins_perm l t).length_eq]; rfl
theorem Of.push {L L' R : List Timer} {t : Timer} (h : Of L R) (h0 : Tm.pushE R t = 0) (hp : L'.Perm (t :: L)) (hh : Hp.Heap ahead L' L'.length 0) : Of L' (pushL R t) := by
  have hn : ¬ (¬ may t ∨ Tm.has R t.seq) := fun hb => by rw [Tm.pushE, if_pos hb] at h0; omega
  have h2 : ¬ R.length = 256 := fun hb => by rw [Tm.pushE, if_neg hn, if_pos hb] at h0; omega
  have hm := h.many
  rw [pushL, if_pos h0]
  refine ⟨hp.trans ((h.perm.cons t).trans (ins_perm R t).symm), hh, ins_sorted h.sorted (fun hb => hn (.inr hb)), ?_, by rw [ins_len]; omega, fun x hx => ?_⟩
  · refine ((ins_perm R t).pairwise_iff (R := fun a b => a.seq ≠ b.seq) (fun h => Ne.symm h)).2 ?_
    rw [List.pairwise_cons]
    exact ⟨fun b hb e => hn (.inr ⟨b, hb, e.symm⟩), h.seqs⟩
  · rcases List.mem_cons.1 ((ins_perm R t).mem_iff.1 hx) with h3 | h3
    · subst h3; exact Decidable.not_not.1 (fun h4 => hn (.inl h4))
    · exact h.mays x h3
theorem Of.root {L R : List Timer} (h : Of L R) (hn : 0 < R.length) : Tm.rec L 0 = Tm.rec R 0 := by
  match R, hn with
  | r :: R', _ =>
    have hr : r ∈ L := h.perm.mem_iff.2 (by simp)
    have hl : 0 < L.length := by rw [h.len]; simp
    have h0 : Tm.rec L 0 ∈ r :: R' := h.perm.mem_iff.1 (Tm.rec_mem hl)
    obtain ⟨j, hj, e⟩ := List.getElem_of_mem hr
    have h1 := h.heap.root ordT j hj
    have h2 : ¬ ahead r (Tm.rec L 0) := by rw [← e, rec_eq hj]; exact h1
    rcases List.mem_cons.1 h0 with h3 | h3
    · rw [h3]; rfl
    · exact absurd ((List.pairwise_cons.1 h.sorted).1 _ h3) h2
theorem Of.pop {L L' R : List Timer} (h : Of L R) (hn : 0 < R.length) (hp : L.Perm (Tm.rec L 0 :: L')) (hh : Hp.Heap ahead L' L'.length 0) : Of L' (R.drop 1) := by
  have hr := h.root hn
  match R, hn, h with
  | r :: R', _, h =>
    have e : Tm.rec L 0 = r := hr
    rw [e] at hp
    exact ⟨(List.perm_cons r).1 (hp.symm.trans h.perm), hh, (List.pairwise_cons.1 h.sorted).2, (List.pairwise_cons.1 h.seqs).2, by have := h.many; simp at this ⊢; omega, fun t ht => h.mays t (List.mem_cons_of_mem _ ht)⟩
theorem Of.root' {L R : List Timer} (h : Of L R) : Tm.rec L 0 = Tm.rec R 0 := by
  rcases Nat.eq_zero_or_pos R.length with h0 | h0
  · have e1 : R = [] := List.eq_nil_of_length_eq_zero h0
    have e2 : L = [] := List.eq_nil_of_length_eq_zero (by rw [h.len]; exact h0)
    rw [e1, e2]
  · exact h.root h0
theorem Of.pop' {L L' R : List Timer} (h : Of L R) (hp : 0 < L.length → L.Perm (Tm.rec L 0 :: L')) (h0 : L.length = 0 → L' = []) (hh : Hp.Heap ahead L' L'.length 0) : Of L' (R.drop 1) := by
  rcases Nat.eq_zero_or_pos R.length with h1 | h1
  · have e1 : R = [] := List.eq_nil_of_length_eq_zero h1
    rw [h0 (by rw [h.len]; exact h1), e1]
    exact Of.nil
  · exact h.pop h1 (hp (by rw [h.len]; exact h1)) hh
theorem check_of {R : List Timer} (h1 : R.length ≤ 256) (h2 : ∀ t ∈ R, may t) (h3 : R.Pairwise ahead) (h4 : R.Pairwise (fun a b => a.seq ≠ b.seq)) : checkE R = 0 := by
  refine check_ok (by omega) fun i hi => ⟨h2 _ (Tm.rec_mem hi), fun ⟨t, ht, hs⟩ => ?_, ?_⟩
  · obtain ⟨j, hj, rfl⟩ := List.getElem_of_mem ht
    rw [List.length_take] at hj
    have := List.pairwise_iff_getElem.1 h4 j i (by omega) hi (by omega)
    rw [List.getElem_take] at hs
    rw [Tm.rec_eq hi] at this
    exact this hs
  · rcases Nat.eq_zero_or_pos i with h0 | h0
    · exact .inl h0
    · have := List.pairwise_iff_getElem.1 h3 (i - 1) i (by omega) hi (by omega)
      rw [Tm.rec_eq hi, Tm.rec_eq (by omega)] at this
      exact .inr this
theorem Of.check {L R : List Timer} (h : Of L R) : checkE R = 0 := check_of h.many h.mays h.sorted h.seqs
theorem Of.addE {L R : List Timer} (h : Of L R) (t : Timer) : Tm.addE R t = Tm.pushE R t ∧ (Tm.pushE R t = 0 → Tm.addL R t = Tm.pushL R t) := by
  have e : Tm.addE R t = Tm.pushE R t := by rw [Tm.addE, if_neg (by rw [h.check]; simp)]; rfl
  exact ⟨e, fun h0 => by rw [Tm.addL, Tm.pushL, e, if_pos h0, if_pos h0]⟩
theorem Of.push' {L L' R : List Timer} {t : Timer} (h : Of L R) (hp : Tm.pushE L t = 0 → L'.Perm (t :: L)) (h0 : Tm.pushE L t ≠ 0 → L' = L) (hh : Hp.Heap ahead L' L'.length 0) : Of L' (pushL R t) := by
  by_cases h1 : Tm.pushE R t = 0
  · exact h.push h1 (hp (by rw [h.pushE]; exact h1)) hh
  · rw [pushL, if_neg h1, h0 (by rw [h.pushE]; exact h1)]; exact h
end Go.Tm
