/-
  A row to which entries are put one behind the other: in plain Lean. No program in sight.
-/
import Derived.Test.YteogahcefkepaaaFr
namespace Go.En
theorem put_zero {l : List Entry} {x : Entry} (h : putE l x = 0) : checkE l = 0 ∧ one x = 0 ∧ ¬ (ahead l x < l.length ∧ ¬ less x (rec l (ahead l x))) ∧ l.length < 4096 ∧ putL l x = l.take (ahead l x) ++ ([x] ++ l.drop (ahead l x)) := by
  by_cases h0 : checkE l = 0
  · by_cases h1 : one x = 0
    · by_cases h2 : ahead l x < l.length ∧ ¬ less x (rec l (ahead l x))
      · have := (put_tie h0 h1 h2).1; omega
      · by_cases h3 : 4096 ≤ l.length
        · have := (put_many h0 h1 h2 h3).1; omega
        · exact ⟨h0, h1, h2, by omega, (put_ok h0 h1 h2 h3).2⟩
    · have := (put_one h0 h1).1; omega
  · have := (put_bad (x := x) h0).1; omega
theorem put_perm {l : List Entry} {x : Entry} (h : putE l x = 0) : (putL l x).Perm (x :: l) := by
  rw [(put_zero h).2.2.2.2]
  have := List.perm_middle (a := x) (l₁ := l.take (ahead l x)) (l₂ := l.drop (ahead l x))
  rwa [List.take_append_drop] at this
theorem put_rises {l : List Entry} {x : Entry} (h : putE l x = 0) : (putL l x).Pairwise less := by
  obtain ⟨h0, _, h2, _, e⟩ := put_zero h
  have hs := check_rises h0
  obtain ⟨h3, h4⟩ := ahead_at (l := l) (x := x)
  have hle := ahead_le l x
  rw [e]
  have hx : ∀ y ∈ l.drop (ahead l x), less x y := fun y hy => by
    obtain ⟨i, hi, rfl⟩ := List.getElem_of_mem hy
    rw [List.length_drop] at hi
    rw [List.getElem_drop, rec_eq (by omega)]
    have h5 : less x (rec l (ahead l x)) := Decidable.not_not.1 (fun h6 => h2 ⟨by omega, h6⟩)
    rcases Nat.eq_zero_or_pos i with h7 | h7
    · rw [h7]; exact h5
    · exact less_trans h5 (rises_at hs (by omega) (by omega))
  have hy : ∀ y ∈ l.take (ahead l x), less y x := fun y hy => by
    obtain ⟨i, hi, rfl⟩ := List.getElem_of_mem hy
    rw [List.length_take] at hi
    rw [List.getElem_take, rec_eq (by omega)]
    exact h3 i (by omega)
  refine List.pairwise_append.2 ⟨hs.sublist (List.take_sublist _ _), List.pairwise_cons.2 ⟨hx, hs.sublist (List.drop_sublist _ _)⟩, fun a ha b hb => ?_⟩
  rcases List.mem_cons.1 hb with h8 | h8
  · rw [h8]; exact hy a ha
  · exact less_trans (hy a ha) (hx b h8)
theorem put_check {l : List Entry} {x : Entry} (h : putE l x = 0) : checkE (putL l x) = 0 := by
  obtain ⟨h0, h1, _, h4, _⟩ := put_zero h
  refine check_of (by rw [(put_perm h).length_eq]; simp; omega) (fun y hy => ?_) (put_rises h)
  rcases List.mem_cons.1 ((put_perm h).mem_iff.1 hy) with e | e
  · rw [e]; exact h1
  · exact check_ones h0 y e
/-- The row behind a put. -/
def stepL (l : List Entry) (x : Entry) : List Entry := if putE l x = 0 then putL l x else l
theorem step_check {l : List Entry} {x : Entry} (h : checkE l = 0) : checkE (stepL l x) = 0 := by
  unfold stepL
  split
  · exact put_check (by assumption)
  · exact h
/-- The row behind many. -/
def rowL (l : List Entry) : List Entry := l.foldl stepL []
theorem row_next {l : List Entry} {i : Nat} (h : i < l.length) : rowL (l.take (i + 1)) = stepL (rowL (l.take i)) (rec l i) := by
  rw [take_snoc h, rowL, List.foldl_append]; rfl
theorem row_snoc (l : List Entry) (x : Entry) : rowL (l ++ [x]) = stepL (rowL l) x := by rw [rowL, List.foldl_append]; rfl
theorem check_nil : checkE [] = 0 := rfl
theorem row_check (l : List Entry) : checkE (rowL l) = 0 := by
  have key : ∀ (m : List Entry) (a : List Entry), checkE a = 0 → checkE (m.foldl stepL a) = 0 := by
    intro m
    induction m with
    | nil => exact fun a h => h
    | cons x r ih => exact fun a h => ih _ (step_check h)
  exact key l [] check_nil
theorem step_len (l : List Entry) (x : Entry) : (stepL l x).length ≤ l.length + 1 := by
  unfold stepL
  split
  · exact putL_len l x
  · omega
theorem row_len (l : List Entry) : (rowL l).length ≤ l.length := by
  have key : ∀ (m : List Entry) (a : List Entry), (m.foldl stepL a).length ≤ a.length + m.length := by
    intro m
    induction m with
    | nil => exact fun a => by simp
    | cons x r ih => exact fun a => by have := ih (stepL a x); have := step_len a x; simp only [List.foldl_cons, List.length_cons]; omega
  have := key l []
  simpa [rowL] using this
/-! ### The order in which they are put -/
def Untied (l : List Entry) : Prop := l.Pairwise (fun a b => less a b ∨ less b a)
theorem Untied.perm {l m : List Entry} (h : Untied l) (hp : l.Perm m) : Untied m :=
  (hp.pairwise_iff (fun h => Or.symm h)).1 h
/-- The good ones. -/
def good (l : List Entry) : List Entry := l.filter fun x => decide (one x = 0)
theorem good_snoc (l : List Entry) (x : Entry) : good (l ++ [x]) = good l ++ (if one x = 0 then [x] else []) := by
  rw [good, good, List.filter_append]
  by_cases h : one x = 0
  · simp [h]
  · simp [h]
theorem put_tied {R : List Entry} {x : Entry} (hr : checkE R = 0) (h1 : one x = 0) (hl : R.length < 4096) (h : ∀ y ∈ R, less x y ∨ less y x) : putE R x = 0 := by
  refine (put_ok hr h1 (fun ⟨h2, h3⟩ => ?_) (by omega)).1
  have h4 := (ahead_at (l := R) (x := x)).2.resolve_left (by omega)
  rcases h _ (rec_mem h2) with h5 | h5
  · exact h3 h5
  · exact h4 h5
/-- Where none ties, all that are good are in the row. -/
theorem row_good : ∀ (n : Nat) (l : List Entry), l.length = n → n ≤ 4000 → Untied (good l) → (rowL l).Perm (good l)
  | 0, l, h, _, _ => by rw [List.eq_nil_of_length_eq_zero h]; exact List.Perm.refl _
  | n + 1, l, h, hn, hu => by
    obtain ⟨m, x, rfl⟩ : ∃ m x, l = m ++ [x] := ⟨l.dropLast, l.getLast (by intro e; rw [e] at h; simp at h), (List.dropLast_concat_getLast _).symm⟩
    have hm : m.length = n := by simpa using h
    rw [good_snoc] at hu ⊢
    have hum : Untied (good m) := (List.pairwise_append.1 hu).1
    have ih := row_good n m hm (by omega) hum
    rw [row_snoc]
    by_cases h1 : one x = 0
    · rw [if_pos h1] at hu ⊢
      have hlen := row_len m
      have hp := put_tied (row_check m) h1 (by omega) (fun y hy => ((List.pairwise_append.1 hu).2.2 y (ih.mem_iff.1 hy) x (by simp)).symm)
      rw [stepL, if_pos hp]
      exact (put_perm hp).trans ((List.Perm.cons _ ih).trans (List.perm_append_comm (l₁ := [x]) (l₂ := good m)))
    · rw [if_neg h1, List.append_nil, stepL, if_neg (by rw [(put_one (row_check m) h1).1]; exact h1)]
      exact ih
/-- No put told that there was one: then none ties. -/
theorem row_free : ∀ (n : Nat) (l : List Entry), l.length = n → n ≤ 4000 → (∀ i, i < l.length → putE (rowL (l.take i)) (rec l i) ≠ 100) → Untied (good l) ∧ (rowL l).Perm (good l)
  | 0, l, h, _, _ => by rw [List.eq_nil_of_length_eq_zero h]; exact ⟨List.Pairwise.nil, List.Perm.refl _⟩
  | n + 1, l, h, hn, hf => by
    obtain ⟨m, x, rfl⟩ : ∃ m x, l = m ++ [x] := ⟨l.dropLast, l.getLast (by intro e; rw [e] at h; simp at h), (List.dropLast_concat_getLast _).symm⟩
    have hm : m.length = n := by simpa using h
    obtain ⟨hum, ih⟩ := row_free n m hm (by omega) (fun i hi => by
      have := hf i (by simp; omega)
      rwa [List.take_append_of_le_length (by omega), rec_left hi] at this)
    have hlast := hf m.length (by simp)
    rw [List.take_left, rec_last] at hlast
    rw [good_snoc, row_snoc]
    by_cases h1 : one x = 0
    · rw [if_pos h1]
      have hlen := row_len m
      have h0 := row_check m
      have h2 : ¬ (ahead (rowL m) x < (rowL m).length ∧ ¬ less x (rec (rowL m) (ahead (rowL m) x))) := fun h2 => hlast (put_tie h0 h1 h2).1
      have hp := (put_ok h0 h1 h2 (by omega)).1
      have hpm := (put_perm hp).trans ((List.Perm.cons _ ih).trans (List.perm_append_comm (l₁ := [x]) (l₂ := good m)))
      rw [stepL, if_pos hp]
      exact ⟨Untied.perm ((put_rises hp).imp (fun h => .inl h)) hpm, hpm⟩
    · rw [if_neg h1, List.append_nil, stepL, if_neg (by rw [(put_one (row_check m) h1).1]; exact h1)]
      exact ⟨hum, ih⟩
theorem row_rev {l : List Entry} (hl : l.length ≤ 4000) (hf : ∀ i, i < l.length → putE (rowL (l.take i)) (rec l i) ≠ 100) : rowL l.reverse = rowL l := by
  obtain ⟨hu, hp⟩ := row_free _ l rfl hl hf
  have hg : (good l.reverse).Perm (good l) := List.Perm.filter _ (List.reverse_perm l)
  have hp2 := row_good _ l.reverse rfl (by simpa using hl) (hu.perm hg.symm)
  exact rises_eq (check_rises (row_check _)) (check_rises (row_check _)) (hp2.trans (hg.trans hp.symm))
/-! ### The newest -/
theorem newest_some {l : List Entry} (hs : l.Pairwise less) {k : List UInt8} {n : Int} {y : Entry} (hy : y ∈ l) (hh : hit y k n) (hm : ∀ z ∈ l, hit z k n → z.seq ≤ y.seq) : newest l k n = some y := by
  induction l with
  | nil => simp at hy
  | cons a r ih =>
    rw [newest, List.find?_cons]
    by_cases ha : hit a k n
    · rw [decide_eq_true ha]
      rcases List.mem_cons.1 hy with e | e
      · rw [e]
      · have h1 := (List.pairwise_cons.1 hs).1 y e
        have h2 := hm a (by simp) ha
        unfold less at h1
        rw [if_pos (by rw [ha.1, hh.1])] at h1
        omega
    · rw [decide_eq_false ha]
      rcases List.mem_cons.1 hy with e | e
      · rw [e] at hh; exact absurd hh ha
      · exact ih (List.pairwise_cons.1 hs).2 e (fun z hz => hm z (by simp [hz]))
theorem newest_mem {l : List Entry} {k : List UInt8} {n : Int} {y : Entry} (h : newest l k n = some y) : y ∈ l ∧ hit y k n := by
  rw [newest] at h
  exact ⟨List.mem_of_find?_eq_some h, by simpa using List.find?_some h⟩
theorem newest_max {l : List Entry} (hs : l.Pairwise less) {k : List UInt8} {n : Int} {y : Entry} (h : newest l k n = some y) : ∀ z ∈ l, hit z k n → z.seq ≤ y.seq := by
  induction l with
  | nil => simp
  | cons a r ih =>
    rw [newest, List.find?_cons] at h
    by_cases ha : hit a k n
    · rw [decide_eq_true ha] at h
      obtain rfl : a = y := Option.some.inj h
      intro z hz hh
      rcases List.mem_cons.1 hz with e | e
      · rw [e]; omega
      · have h1 := (List.pairwise_cons.1 hs).1 z e
        unfold less at h1
        rw [if_pos (by rw [ha.1, hh.1])] at h1
        omega
    · rw [decide_eq_false ha] at h
      intro z hz hh
      rcases List.mem_cons.1 hz with e | e
      · rw [e] at hh; exact absurd hh ha
      · exact ih (List.pairwise_cons.1 hs).2 h z e hh
/-- The greatest number of the one that is found, or -1. -/
def bestQ (o : Option Entry) : Int := match o with | some y => y.seq | none => -1
theorem newest_put {R : List Entry} {x : Entry} (h : putE R x = 0) (k : List UInt8) (n : Int) : newest (putL R x) k n = if hit x k n ∧ bestQ (newest R k n) < x.seq then some x else newest R k n := by
  obtain ⟨h0, h1, _⟩ := put_zero h
  have hs := check_rises h0
  have hsp := put_rises h
  have hmem : ∀ z, z ∈ putL R x ↔ z = x ∨ z ∈ R := fun z => by rw [(put_perm h).mem_iff]; simp
  have hx0 := (one_zero h1).2.2.1
  split
  · rename_i hc
    refine newest_some hsp ((hmem x).2 (.inl rfl)) hc.1 (fun z hz hh => ?_)
    rcases (hmem z).1 hz with e | e
    · rw [e]; omega
    · cases hn : newest R k n with
      | none => exact absurd (List.find?_eq_none.1 hn z e) (by simpa using hh)
      | some y =>
        have h2 := newest_max hs hn z e hh
        have h3 := hc.2
        rw [hn] at h3
        have h3 : y.seq < x.seq := h3
        omega
  · rename_i hc
    cases hn : newest R k n with
    | none =>
      rw [newest, List.find?_eq_none]
      intro z hz hh
      have hh : hit z k n := by simpa using hh
      rcases (hmem z).1 hz with e | e
      · rw [e] at hh
        exact hc ⟨hh, by rw [hn]; show (-1 : Int) < x.seq; omega⟩
      · exact absurd (List.find?_eq_none.1 hn z e) (by simpa using hh)
    | some y =>
      obtain ⟨hy1, hy2⟩ := newest_mem hn
      refine newest_some hsp ((hmem y).2 (.inr hy1)) hy2 (fun z hz hh => ?_)
      rcases (hmem z).1 hz with e | e
      · rw [e] at hh ⊢
        refine Int.not_lt.1 (fun h3 => hc ⟨hh, ?_⟩)
        rw [hn]; exact h3
      · exact newest_max hs hn z e hh
theorem best_ge {R : List Entry} (h : checkE R = 0) (k : List UInt8) (n : Int) : (newest R k n).isSome = decide (bestQ (newest R k n) ≥ 0) := by
  cases hn : newest R k n with
  | none => rfl
  | some y =>
    have := (one_zero (check_ones h y (newest_mem hn).1)).2.2.1
    show true = decide (y.seq ≥ 0)
    rw [decide_eq_true (by omega)]
end Go.En
