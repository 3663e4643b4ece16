/-
  What was thinned, and looked at later: in plain Lean. No program in sight.
-/
import Derived.Test.YtilnoklpikblgaaMg2
namespace Go.En
theorem bads_of {l : List Entry} (h2 : ∀ x ∈ l, one x = 0) (h3 : l.Pairwise less) : ∀ j, j < l.length → badAt l j = 0 := fun j hj =>
  bad_ok (by have := h2 _ (rec_mem hj); omega) (fun ⟨h4, h5⟩ => h5 (rises_at h3 (by omega) hj))
theorem bads_ones {l : List Entry} (h : ∀ j, j < l.length → badAt l j = 0) : ∀ x ∈ l, one x = 0 := fun x hx => by
  obtain ⟨j, hj, rfl⟩ := List.getElem_of_mem hx
  rw [rec_eq hj]; exact (bad_zero (h j hj)).1
theorem top_sub {l m : List Entry} {q : Int} {x : Entry} (hs : ∀ y ∈ m, y ∈ l) (h : top l q x) : top m q x := ⟨h.1, fun y hy hh => h.2 y (hs y hy) hh⟩
theorem mem_thin {l : List Entry} {q : Int} {t : Bool} {x : Entry} : x ∈ thin l q t ↔ x ∈ l ∧ (q < x.seq ∨ (top l q x ∧ ¬ (t = true ∧ x.gone = true))) := by
  rw [thin, List.mem_filter, decide_eq_true_iff]
theorem mem_live {l : List Entry} {q : Int} {x : Entry} : x ∈ live l q ↔ x ∈ l ∧ top l q x ∧ ¬ x.gone = true := by
  rw [live, List.mem_filter, decide_eq_true_iff]
theorem thin_sub (l : List Entry) (q : Int) (t : Bool) : (thin l q t).Sublist l := List.filter_sublist
theorem thin_rises {l : List Entry} (h : l.Pairwise less) (q : Int) (t : Bool) : (thin l q t).Pairwise less := h.sublist (thin_sub l q t)
theorem thin_good {l : List Entry} {q : Int} (t : Bool) (h : thinE l q = 0) : thinE (thin l q t) q = 0 ∧ ∀ j, j < (thin l q t).length → badAt (thin l q t) j = 0 := by
  obtain ⟨h1, h2, h3⟩ := thin_zero h
  have h4 := bads_of (fun x hx => bads_ones h2 x (mem_thin.1 hx).1) (thin_rises (bads_rise h2) q t)
  exact ⟨(thin_ok (t := t) (by have := (thin_sub l q t).length_le; omega) h4 h3).1, h4⟩
/-- Thinning what was thinned leaves all. -/
theorem thin_thin (l : List Entry) (q : Int) (t : Bool) : thin (thin l q t) q t = thin l q t := by
  conv => lhs; unfold thin
  exact List.filter_eq_self.2 fun x hx => decide_eq_true (by
    rcases (mem_thin.1 hx).2 with h | ⟨h, h2⟩
    · exact .inl h
    · exact .inr ⟨top_sub (fun y hy => (mem_thin.1 hy).1) h, h2⟩)
/-- Of each key at most one is left that is not above the number. -/
theorem thin_once {l : List Entry} (hs : l.Pairwise less) {q : Int} {t : Bool} {i : Nat} (h0 : 0 < i) (hi : i < (thin l q t).length) : ¬ ((rec (thin l q t) (i - 1)).key = (rec (thin l q t) i).key ∧ (rec (thin l q t) (i - 1)).seq ≤ q) := fun ⟨hk, hq⟩ => by
  have hr := rises_at (thin_rises hs q t) (show i - 1 < i by omega) hi
  unfold less at hr
  rw [if_pos hk] at hr
  have h1 := mem_thin.1 (rec_mem hi)
  have h2 := mem_thin.1 (rec_mem (l := thin l q t) (i := i - 1) (by omega))
  rcases h1.2 with h | ⟨h, _⟩
  · omega
  · have := h.2 _ h2.1 ⟨hk, hq⟩
    omega
theorem rises_nodup {l : List Entry} (h : l.Pairwise less) : l.Nodup := h.imp (fun h e => by subst e; exact less_irrefl _ h)
/-- Rows that rise and have the same members are the same. -/
theorem rises_ext {l m : List Entry} (h1 : l.Pairwise less) (h2 : m.Pairwise less) (h : ∀ x, x ∈ l ↔ x ∈ m) : l = m :=
  rises_eq h1 h2 ((List.perm_ext_iff_of_nodup (rises_nodup h1) (rises_nodup h2)).2 h)
theorem live_rises {l : List Entry} (h : l.Pairwise less) (q : Int) : (live l q).Pairwise less := h.sublist List.filter_sublist
/-- Is there a look that tells another one? Not from the number on. -/
theorem keep_old {l o : List Entry} {q a : Int} (hl : l.Pairwise less) (hq : q ≤ a) {A B : List Entry} (hA : ∀ x, x ∈ A ↔ x ∈ l ∨ x ∈ o) (hB : ∀ x, x ∈ B ↔ x ∈ thin l q false ∨ x ∈ o) (hAr : A.Pairwise less) (hBr : B.Pairwise less) : live A a = live B a := by
  have hsub : ∀ y ∈ B, y ∈ A := fun y hy => by
    rcases (hB y).1 hy with h | h
    · exact (hA y).2 (.inl (mem_thin.1 h).1)
    · exact (hA y).2 (.inr h)
  refine rises_ext (live_rises hAr a) (live_rises hBr a) fun x => ?_
  rw [mem_live, mem_live]
  constructor
  · rintro ⟨h1, h2, h3⟩
    refine ⟨(hB x).2 ?_, top_sub hsub h2, h3⟩
    rcases (hA x).1 h1 with h | h
    · refine .inl (mem_thin.2 ⟨h, ?_⟩)
      rcases Int.lt_or_le q x.seq with h4 | h4
      · exact .inl h4
      · exact .inr ⟨⟨h4, fun y hy hh => h2.2 y ((hA y).2 (.inl hy)) ⟨hh.1, by have := hh.2; omega⟩⟩, by simp⟩
    · exact .inr h
  · rintro ⟨h1, h2, h3⟩
    refine ⟨hsub x h1, ⟨h2.1, fun y hy hh => ?_⟩, h3⟩
    rcases (hA y).1 hy with h | h
    · by_cases h4 : y ∈ thin l q false
      · exact h2.2 y ((hB y).2 (.inl h4)) hh
      · have h5 : y.seq ≤ q := by rcases Int.lt_or_le q y.seq with h5 | h5; exact absurd (mem_thin.2 ⟨h, .inl h5⟩) h4; exact h5
        obtain ⟨z, hz⟩ := newest_some h (⟨rfl, h5⟩ : hit y y.key q)
        obtain ⟨z1, z2, z3⟩ := newest_top hl hz
        have h6 : z ∈ thin l q false := mem_thin.2 ⟨z1, .inr ⟨z3, by simp⟩⟩
        have h7 := h2.2 z ((hB z).2 (.inl h6)) ⟨z2.trans hh.1, by have := z3.1; omega⟩
        have h8 := z3.2 y h ⟨z2.symm, h5⟩
        omega
    · exact h2.2 y ((hB y).2 (.inr h)) hh
theorem keep_last {l : List Entry} {q a : Int} (hl : l.Pairwise less) (hq : q ≤ a) : live l a = live (thin l q true) a := by
  refine rises_ext (live_rises hl a) (live_rises (thin_rises hl q true) a) fun x => ?_
  rw [mem_live, mem_live]
  constructor
  · rintro ⟨h1, h2, h3⟩
    refine ⟨mem_thin.2 ⟨h1, ?_⟩, top_sub (fun y hy => (mem_thin.1 hy).1) h2, h3⟩
    rcases Int.lt_or_le q x.seq with h4 | h4
    · exact .inl h4
    · exact .inr ⟨⟨h4, fun y hy hh => h2.2 y hy ⟨hh.1, by have := hh.2; omega⟩⟩, fun h => h3 h.2⟩
  · rintro ⟨h1, h2, h3⟩
    obtain ⟨h4, h5⟩ := mem_thin.1 h1
    refine ⟨h4, ⟨h2.1, fun y hy hh => ?_⟩, h3⟩
    by_cases h6 : y ∈ thin l q true
    · exact h2.2 y h6 hh
    · have h7 : y.seq ≤ q := by rcases Int.lt_or_le q y.seq with h7 | h7; exact absurd (mem_thin.2 ⟨hy, .inl h7⟩) h6; exact h7
      rcases Int.lt_or_le q x.seq with h8 | h8
      · omega
      · rcases h5 with h5 | ⟨h5, _⟩
        · omega
        · exact h5.2 y hy ⟨hh.1, h7⟩
/-! ### The rows of the statement -/
def Older (l o : List Entry) : Prop := ∀ x ∈ o, ∀ y ∈ l, x.key = y.key → x.seq < y.seq
theorem untied_older {l o : List Entry} (hl : l.Pairwise less) (ho : o.Pairwise less) (h : Older l o) : Untied (l ++ o) := by
  rw [Untied, List.pairwise_append]
  refine ⟨rises_untied hl, rises_untied ho, fun x hx y hy => ?_⟩
  rcases less_total x y with h1 | ⟨h1, h2⟩ | h1
  · exact .inl h1
  · have := h y hy x hx h1.symm; omega
  · exact .inr h1
theorem all_one {l : List Entry} (h : checkE l = 0) : allE [l] = 0 ∧ allL [l] = l := by
  have hs := check_rises h
  have hl := (check_zero h).1
  exact all_ok (Ls := [l]) (by simp) (rowsE_zero.2 (by simpa using h)) (by simp; omega) (by simp) hs
theorem all_two {l o : List Entry} (h : checkE l = 0) (hl : l.length ≤ 200) (hol : o.length ≤ 200) (ho : Older l o) : allE [l, o] = checkE o ∧ (checkE o = 0 → (allL [l, o]).Pairwise less ∧ ∀ x, x ∈ allL [l, o] ↔ x ∈ l ∨ x ∈ o) := by
  by_cases h0 : checkE o = 0
  · have hu := untied_older (check_rises h) (check_rises h0) ho
    have e := all_ok (Ls := [l, o]) (out := srt (l ++ o)) (by simp) (rowsE_zero.2 (by simp [h, h0])) (by simp; omega) (by simpa using srt_perm (l ++ o)) (srt_rises hu)
    refine ⟨by rw [e.1, h0], fun _ => ⟨by rw [e.2]; exact srt_rises hu, fun x => ?_⟩⟩
    rw [e.2, (srt_perm (l ++ o)).mem_iff, List.mem_append]
  · have hr : rowsE [l, o] = checkE o := by rw [rowsE, if_neg (by omega), rowsE, if_pos h0]
    exact ⟨by rw [(all_bad (Ls := [l, o]) (by simp) (by rw [hr]; exact h0)).1, hr], fun h1 => absurd h1 h0⟩
theorem older_sub {l m o : List Entry} (h : Older l o) (hs : ∀ y ∈ m, y ∈ l) : Older m o := fun x hx y hy hk => h x hx y (hs y hy) hk
/-- What the statement asks: the errors are the same, and where there is none, what counts is. -/
theorem never_missed {l o : List Entry} {q a : Int} (h : thinE l q = 0) (hl : l.length ≤ 200) (hol : o.length ≤ 200) (hq : q ≤ a) (ho : Older l o) :
    liveE [l, o] a = liveE [thin l q false, o] a ∧ liveE [l] a = liveE [thin l q true] a ∧ (liveE [l, o] a = 0 → liveL [l, o] a = liveL [thin l q false, o] a ∧ liveL [l] a = liveL [thin l q true] a) := by
  obtain ⟨_, hb, _⟩ := thin_zero h
  have hs := bads_rise hb
  have h0 : checkE l = 0 := check_of (by omega) (bads_ones hb) hs
  have hth : ∀ t, checkE (thin l q t) = 0 ∧ (thin l q t).length ≤ 200 := fun t => by
    have h1 := (thin_sub l q t).length_le
    exact ⟨check_of (by omega) (fun x hx => bads_ones hb x (mem_thin.1 hx).1) (thin_rises hs q t), by omega⟩
  obtain ⟨e1, m1⟩ := all_two h0 hl hol ho
  obtain ⟨e2, m2⟩ := all_two (hth false).1 (hth false).2 hol (older_sub ho (fun y hy => (mem_thin.1 hy).1))
  obtain ⟨e3, l3⟩ := all_one h0
  obtain ⟨e4, l4⟩ := all_one (hth true).1
  have le1 : liveE [l, o] a = liveE [thin l q false, o] a := by rw [liveE, liveE, e1, e2]
  have le2 : liveE [l] a = liveE [thin l q true] a := by rw [liveE, liveE, e3, e4]
  refine ⟨le1, le2, fun hz => ?_⟩
  have hz2 := hz
  rw [liveE] at hz2
  split at hz2
  · omega
  · rename_i hn
    have ho0 : checkE o = 0 := by rw [e1] at hn; omega
    obtain ⟨r1, k1⟩ := m1 ho0
    obtain ⟨r2, k2⟩ := m2 ho0
    have hz3 : liveE [l] a = 0 := by rw [liveE, e3, if_neg (by omega)]; exact hz2
    refine ⟨?_, ?_⟩
    · rw [liveL, liveL, if_pos hz, if_pos (le1 ▸ hz)]
      exact keep_old hs hq k1 k2 r1 r2
    · rw [liveL, liveL, if_pos hz3, if_pos (le2 ▸ hz3), l3, l4]
      exact keep_last hs hq
theorem thin_lens (l : List Entry) (q : Int) : (thin l q true).length ≤ (thin l q false).length ∧ (thin l q false).length ≤ l.length := by
  refine ⟨?_, (thin_sub l q false).length_le⟩
  have : thin l q true = (thin l q false).filter fun x => decide (q < x.seq ∨ (top l q x ∧ ¬ (true = true ∧ x.gone = true))) := by
    rw [thin, thin, List.filter_filter]
    apply List.filter_congr
    intro x _
    by_cases h1 : q < x.seq <;> by_cases h2 : top l q x <;> by_cases h3 : x.gone = true <;> simp [h1, h2, h3]
  rw [this]; exact List.length_filter_le _ _
end Go.En
