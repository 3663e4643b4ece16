/-
  Many rows as one, those that count, what may be left out: in plain Lean. No program in sight.
-/
import Derived.Test.YtilnoklpikblgaaEn
import Derived.Test.YtilnoklpikblgaaLaneP
namespace Go.En
/-! ### Rows put together -/
def tied (a b : Entry) : Prop := ¬ less a b ∧ ¬ less b a
def Untied (l : List Entry) : Prop := l.Pairwise (fun a b => less a b ∨ less b a)
instance (l : List Entry) : Decidable (Untied l) := inferInstanceAs (Decidable (l.Pairwise _))
def le (a b : Entry) : Bool := !decide (less b a)
def srt (l : List Entry) : List Entry := l.mergeSort le
theorem Untied.perm {l m : List Entry} (h : Untied l) (hp : l.Perm m) : Untied m :=
  (hp.pairwise_iff (fun h => Or.symm h)).1 h
theorem rises_untied {l : List Entry} (h : l.Pairwise less) : Untied l := h.imp (fun h => .inl h)
theorem srt_perm (l : List Entry) : (srt l).Perm l := List.mergeSort_perm l le
theorem srt_weak (l : List Entry) : (srt l).Pairwise (fun a b => ¬ less b a) := by
  have := List.pairwise_mergeSort (le := le) (fun a b c h1 h2 => by
    simp only [le, Bool.not_eq_true', decide_eq_false_iff_not] at *
    exact less_neg_trans h1 h2) (fun a b => by
    simp only [le, Bool.or_eq_true, Bool.not_eq_true', decide_eq_false_iff_not]
    by_cases h : less b a
    · exact .inr (less_asymm h)
    · exact .inl h) l
  exact this.imp (fun h => by simpa [le] using h)
theorem weak_rises {l : List Entry} (h : l.Pairwise (fun a b => ¬ less b a)) (hu : Untied l) : l.Pairwise less :=
  (h.and hu).imp (fun ⟨h1, h2⟩ => h2.resolve_right h1)
theorem srt_rises {l : List Entry} (hu : Untied l) : (srt l).Pairwise less := weak_rises (srt_weak l) (hu.perm (srt_perm l).symm)
/-- What rises and has the same entries is what was sought. -/
theorem finish {l out : List Entry} (hp : out.Perm l) (hs : out.Pairwise less) : Untied l ∧ srt l = out :=
  have hu := (rises_untied hs).perm hp
  ⟨hu, rises_eq (srt_rises hu) hs ((srt_perm l).trans hp.symm)⟩
theorem srt_self {l : List Entry} (h : l.Pairwise less) : srt l = l := (finish (List.Perm.refl l) h).2
/-- Two that neither stand ahead: the rows clash. -/
theorem clash {l a b : List Entry} {x y : Entry} (hp : (a ++ x :: b).Perm l) (hy : y ∈ a) (ht : tied y x) : ¬ Untied l := fun hu => by
  have h := hu.perm hp.symm
  have h2 := (List.pairwise_append.1 h).2.2 y hy x (by simp)
  rcases h2 with h2 | h2
  · exact ht.1 h2
  · exact ht.2 h2
theorem weak_clash {l out : List Entry} (hp : out.Perm l) (hw : out.Pairwise (fun a b => ¬ less b a)) {i : Nat} (h0 : 0 < i) (hi : i < out.length) (hn : ¬ less (rec out (i - 1)) (rec out i)) : ¬ Untied l := fun hu => by
  have h := hu.perm hp.symm
  have h1 := List.pairwise_iff_getElem.1 h (i - 1) i (by omega) hi (by omega)
  have h2 := List.pairwise_iff_getElem.1 hw (i - 1) i (by omega) hi (by omega)
  rw [rec_eq hi, rec_eq (by omega)] at h1 h2
  rcases h1 with h1 | h1
  · exact hn h1
  · exact h2 h1
def rowsE : List (List Entry) → Nat
  | [] => 0
  | r :: R => if checkE r ≠ 0 then checkE r else rowsE R
theorem rowsE_zero : ∀ {Ls : List (List Entry)}, rowsE Ls = 0 ↔ ∀ r ∈ Ls, checkE r = 0
  | [] => by simp [rowsE]
  | r :: R => by
    rw [rowsE]
    split
    · rename_i h
      exact ⟨fun h' => absurd h' h, fun h' => absurd (h' r (by simp)) h⟩
    · rename_i h
      rw [rowsE_zero]
      simp only [List.mem_cons, forall_eq_or_imp]
      exact ⟨fun h' => ⟨by omega, h'⟩, fun h' => h'.2⟩
theorem rowsE_at : ∀ {Ls : List (List Entry)} {k : Nat} (h : k < Ls.length), (∀ j (hj : j < k), checkE (Ls[j]'(by omega)) = 0) → checkE Ls[k] ≠ 0 → rowsE Ls = checkE Ls[k]
  | r :: R, 0, _, _, h2 => by rw [rowsE]; exact if_pos h2
  | r :: R, k + 1, h, h1, h2 => by
    rw [rowsE, if_neg (by have := h1 0 (by omega); simpa using this)]
    have h' : k < R.length := by simpa using h
    have := rowsE_at (Ls := R) (k := k) h' (fun j hj => by have := h1 (j + 1) (by omega); simpa using this) (by simpa using h2)
    simpa using this
theorem rowsE_ok {Ls : List (List Entry)} (h : ∀ j (hj : j < Ls.length), checkE Ls[j] = 0) : rowsE Ls = 0 := rowsE_zero.2 (fun r hr => by
  obtain ⟨j, hj, rfl⟩ := List.getElem_of_mem hr; exact h j hj)
/-- How many entries the first 'k' rows have. -/
def many (Ls : List (List Entry)) (k : Nat) : Nat := (Ls.take k).flatten.length
theorem many_next {Ls : List (List Entry)} {k : Nat} (h : k < Ls.length) : many Ls (k + 1) = many Ls k + Ls[k].length := by
  rw [many, many, List.take_add_one, List.getElem?_eq_getElem h, List.flatten_append, List.length_append]
  show _ + ([Ls[k]].flatten).length = _
  rw [List.flatten_singleton]
theorem many_all (Ls : List (List Entry)) : many Ls Ls.length = Ls.flatten.length := by rw [many, List.take_length]
theorem many_le (Ls : List (List Entry)) (k : Nat) : many Ls k ≤ Ls.flatten.length := by
  rw [many]
  conv => rhs; rw [← List.take_append_drop k Ls]
  rw [List.flatten_append, List.length_append]; omega
def allE (Ls : List (List Entry)) : Nat := if 64 < Ls.length then 4 else if rowsE Ls ≠ 0 then rowsE Ls else if 16384 < Ls.flatten.length then 4 else if Untied Ls.flatten then 0 else 100
def allL (Ls : List (List Entry)) : List Entry := if allE Ls = 0 then srt Ls.flatten else []
theorem all_rows {Ls : List (List Entry)} (h : 64 < Ls.length) : allE Ls = 4 ∧ allL Ls = [] := by
  have e : allE Ls = 4 := if_pos h
  exact ⟨e, if_neg (by omega)⟩
theorem all_bad {Ls : List (List Entry)} (h : ¬ 64 < Ls.length) (h1 : rowsE Ls ≠ 0) : allE Ls = rowsE Ls ∧ allL Ls = [] := by
  have e : allE Ls = rowsE Ls := by rw [allE, if_neg h, if_pos h1]
  exact ⟨e, if_neg (by omega)⟩
theorem all_many {Ls : List (List Entry)} (h : ¬ 64 < Ls.length) (h1 : rowsE Ls = 0) (h2 : 16384 < Ls.flatten.length) : allE Ls = 4 ∧ allL Ls = [] := by
  have e : allE Ls = 4 := by rw [allE, if_neg h, if_neg (by omega), if_pos h2]
  exact ⟨e, if_neg (by omega)⟩
theorem all_clash {Ls : List (List Entry)} (h : ¬ 64 < Ls.length) (h1 : rowsE Ls = 0) (h2 : ¬ 16384 < Ls.flatten.length) (h3 : ¬ Untied Ls.flatten) : allE Ls = 100 ∧ allL Ls = [] := by
  have e : allE Ls = 100 := by rw [allE, if_neg h, if_neg (by omega), if_neg h2, if_neg h3]
  exact ⟨e, if_neg (by omega)⟩
theorem all_ok {Ls : List (List Entry)} (h : ¬ 64 < Ls.length) (h1 : rowsE Ls = 0) (h2 : ¬ 16384 < Ls.flatten.length) {out : List Entry} (hp : out.Perm Ls.flatten) (hs : out.Pairwise less) : allE Ls = 0 ∧ allL Ls = out := by
  obtain ⟨hu, e2⟩ := finish hp hs
  have e : allE Ls = 0 := by rw [allE, if_neg h, if_neg (by omega), if_neg h2, if_pos hu]
  exact ⟨e, by rw [allL, if_pos e, e2]⟩
theorem all_zero {Ls : List (List Entry)} (h : allE Ls = 0) : Ls.length ≤ 64 ∧ (∀ r ∈ Ls, checkE r = 0) ∧ Ls.flatten.length ≤ 16384 ∧ (allL Ls).Perm Ls.flatten ∧ (allL Ls).Pairwise less := by
  have h' := h
  unfold allE at h
  split at h
  · omega
  · split at h
    · omega
    · rename_i h1 h2
      split at h
      · omega
      · rename_i h3
        split at h
        · rename_i h4
          refine ⟨by omega, rowsE_zero.1 (by omega), by omega, ?_, ?_⟩
          · rw [allL, if_pos h']; exact srt_perm _
          · rw [allL, if_pos h']; exact srt_rises h4
        · omega

/-! ### A heap of rows -/
abbrev Row (β : Type) := β × List Entry
def lt {β : Type} (p q : Row β) : Prop := less (rec p.2 0) (rec q.2 0)
instance {β : Type} (p q : Row β) : Decidable (lt p q) := inferInstanceAs (Decidable (less _ _))
theorem ordR {β : Type} : Hp.Ord (lt (β := β)) := ⟨fun _ _ h => less_asymm h, fun _ _ _ h1 h2 => less_neg_trans h1 h2⟩
section
variable {β : Type} [Inhabited β]
/-- What was put out, and what the queue still has. -/
structure Run (M out : List Entry) (L : List (Row β)) : Prop where
  perm : (out ++ L.flatMap (·.2)).Perm M
  rows : ∀ p ∈ L, p.2 ≠ [] ∧ p.2.Pairwise less
  sorted : out.Pairwise less
  above : ∀ x ∈ out, ∀ y ∈ L.flatMap (·.2), ¬ less y x
theorem head_least {r : List Entry} (hs : r.Pairwise less) {y : Entry} (hy : y ∈ r) : ¬ less y (rec r 0) := by
  obtain ⟨j, hj, rfl⟩ := List.getElem_of_mem hy
  rw [rec_eq hj]
  rcases Nat.eq_zero_or_pos j with h | h
  · subst h; exact less_irrefl _
  · exact less_asymm (rises_at hs h hj)
/-- The root's first entry stands behind none. -/
theorem Run.least {M out : List Entry} {L : List (Row β)} (h : Run M out L) (hh : Hp.Heap lt L L.length 0) {y : Entry} (hy : y ∈ L.flatMap (·.2)) : ¬ less y (En.rec (Hp.g L 0).2 0) := by
  obtain ⟨p, hp, hyp⟩ := List.mem_flatMap.1 hy
  obtain ⟨j, hj, rfl⟩ := List.getElem_of_mem hp
  have h1 := hh.root ordR j hj
  have h2 := head_least (h.rows _ hp).2 hyp
  rw [Hp.g_eq hj] at h2
  exact less_neg_trans h1 h2
theorem perm_root {L : List (Row β)} (hL : 0 < L.length) : L.Perm (Hp.g L 0 :: L.drop 1) := by
  match L, hL with
  | p :: L0, _ => exact List.Perm.refl _
theorem Run.clash {M out : List Entry} {L : List (Row β)} (h : Run M out L) (hh : Hp.Heap lt L L.length 0) (hL : 0 < L.length) (hn : 0 < out.length) (hl : ¬ less (En.rec out (out.length - 1)) (En.rec (Hp.g L 0).2 0)) : ¬ Untied M := by
  have hp := perm_root hL
  have hne := h.rows _ (Hp.g_mem hL)
  obtain ⟨r, hr⟩ : ∃ r, (Hp.g L 0).2 = En.rec (Hp.g L 0).2 0 :: r := by
    match e : (Hp.g L 0).2, hne.1 with
    | x :: r, _ => exact ⟨r, by rw [En.rec]; rfl⟩
  have hmem : En.rec (Hp.g L 0).2 0 ∈ L.flatMap (·.2) := List.mem_flatMap.2 ⟨_, Hp.g_mem hL, by rw [hr]; simp [En.rec]⟩
  have h1 := h.above _ (rec_mem (l := out) (i := out.length - 1) (by omega)) _ hmem
  have h2 : (L.flatMap (·.2)).Perm (En.rec (Hp.g L 0).2 0 :: (r ++ (L.drop 1).flatMap (·.2))) := by
    refine (hp.flatMap_right (·.2)).trans ?_
    rw [List.flatMap_cons]
    conv => lhs; rw [hr]
    exact List.Perm.refl _
  exact En.clash (((List.Perm.append_left out h2).symm.trans h.perm)) (rec_mem (by omega)) ⟨hl, h1⟩
/-- One entry taken: 'L'' has the root's other entries, and all other rows. -/
theorem Run.take {M out : List Entry} {L L' : List (Row β)} {b : β} (h : Run M out L) (hh : Hp.Heap lt L L.length 0) (hL : 0 < L.length) (hl : out.length = 0 ∨ less (En.rec out (out.length - 1)) (En.rec (Hp.g L 0).2 0))
    (hp : L'.Perm (L.drop 1) ∧ (Hp.g L 0).2.drop 1 = [] ∨ L'.Perm ((b, (Hp.g L 0).2.drop 1) :: L.drop 1) ∧ (Hp.g L 0).2.drop 1 ≠ []) : Run M (out ++ [En.rec (Hp.g L 0).2 0]) L' := by
  have hpr := perm_root hL
  have hne := h.rows _ (Hp.g_mem hL)
  have hr : (Hp.g L 0).2 = En.rec (Hp.g L 0).2 0 :: (Hp.g L 0).2.drop 1 := by
    match e : (Hp.g L 0).2, hne.1 with
    | x :: r, _ => rfl
  have hfl : (L.flatMap (·.2)).Perm (En.rec (Hp.g L 0).2 0 :: ((Hp.g L 0).2.drop 1 ++ (L.drop 1).flatMap (·.2))) := by
    refine (hpr.flatMap_right (·.2)).trans ?_
    rw [List.flatMap_cons]
    conv => lhs; rw [hr]
    exact List.Perm.refl _
  have hfl' : (L'.flatMap (·.2)).Perm ((Hp.g L 0).2.drop 1 ++ (L.drop 1).flatMap (·.2)) := by
    rcases hp with ⟨hp, he⟩ | ⟨hp, _⟩
    · rw [he]; exact hp.flatMap_right (·.2)
    · exact hp.flatMap_right (·.2)
  have hmem : ∀ y ∈ L'.flatMap (·.2), y ∈ L.flatMap (·.2) := fun y hy => hfl.mem_iff.2 (List.mem_cons_of_mem _ (hfl'.mem_iff.1 hy))
  refine ⟨?_, ?_, ?_, ?_⟩
  · refine List.Perm.trans ?_ h.perm
    rw [List.append_assoc]
    refine List.Perm.append_left out ?_
    exact (List.Perm.cons _ hfl').trans hfl.symm
  · intro p hpm
    have hd : ∀ q ∈ L.drop 1, q.2 ≠ [] ∧ q.2.Pairwise less := fun q hq => h.rows q (List.mem_of_mem_drop hq)
    rcases hp with ⟨hp, _⟩ | ⟨hp, he⟩
    · exact hd p (hp.mem_iff.1 hpm)
    · rcases List.mem_cons.1 (hp.mem_iff.1 hpm) with e | e
      · subst e; exact ⟨he, hne.2.sublist (List.drop_sublist _ _)⟩
      · exact hd p e
  · rw [List.pairwise_append]
    refine ⟨h.sorted, List.pairwise_singleton _ _, fun a ha b hb => ?_⟩
    rw [List.mem_singleton.1 hb]
    obtain ⟨j, hj, rfl⟩ := List.getElem_of_mem ha
    rw [rec_eq hj]
    rcases hl with hl | hl
    · omega
    · rcases Nat.lt_or_ge j (out.length - 1) with h1 | h1
      · exact less_trans (rises_at h.sorted h1 (by omega)) hl
      · rwa [show j = out.length - 1 by omega]
  · intro x hx y hy
    rcases List.mem_append.1 hx with hx | hx
    · exact h.above x hx y (hmem y hy)
    · rw [List.mem_singleton.1 hx]; exact h.least hh (hmem y hy)
end
/-! ### Two rows put together (the document's way) -/
/-- The entries of two rows, one step: is the next one the first row's? -/
def ahead2 (a b : List Entry) : Prop := b = [] ∨ (a ≠ [] ∧ less (En.rec a 0) (En.rec b 0))
instance (a b : List Entry) : Decidable (ahead2 a b) := inferInstanceAs (Decidable (_ ∨ _))
structure Two (A B out a b : List Entry) : Prop where
  perm : (out ++ (a ++ b)).Perm (A ++ B)
  wa : a.Pairwise (fun x y => ¬ less y x)
  wb : b.Pairwise (fun x y => ¬ less y x)
  wo : out.Pairwise (fun x y => ¬ less y x)
  above : ∀ x ∈ out, ∀ y ∈ a ++ b, ¬ less y x
def Weak (l : List Entry) : Prop := l.Pairwise (fun x y => ¬ less y x)
theorem Weak.head {x : Entry} {l : List Entry} (h : Weak (x :: l)) {y : Entry} (hy : y ∈ x :: l) : ¬ less y x := by
  rcases List.mem_cons.1 hy with e | e
  · rw [e]; exact less_irrefl _
  · exact (List.pairwise_cons.1 h).1 y e
theorem Two.start {A B : List Entry} (ha : Weak A) (hb : Weak B) : Two A B [] A B := ⟨List.Perm.refl _, ha, hb, List.Pairwise.nil, fun x hx => by simp at hx⟩
theorem Two.left {A B out a b : List Entry} (h : Two A B out a b) (ha : a ≠ []) (hd : ahead2 a b) : Two A B (out ++ [En.rec a 0]) (a.drop 1) b := by
  match a, ha with
  | x :: a, _ =>
    have hx : ∀ y ∈ (x :: a) ++ b, ¬ less y x := fun y hy => by
      rcases List.mem_append.1 hy with h1 | h1
      · exact Weak.head h.wa h1
      · rcases hd with hd | ⟨_, hd⟩
        · rw [hd] at h1; simp at h1
        · match b, h1 with
          | z :: b, h1 =>
            have h2 : ¬ less y z := Weak.head h.wb h1
            exact less_neg_trans (less_asymm hd) h2
    refine ⟨?_, (List.pairwise_cons.1 h.wa).2, h.wb, ?_, ?_⟩
    · have := h.perm
      rw [List.append_assoc]
      exact this
    · rw [List.pairwise_append]
      exact ⟨h.wo, List.pairwise_singleton _ _, fun p hp q hq => by rw [List.mem_singleton.1 hq]; exact h.above p hp x (by simp)⟩
    · intro p hp q hq
      have hq' : q ∈ (x :: a) ++ b := List.mem_cons_of_mem _ hq
      rcases List.mem_append.1 hp with h1 | h1
      · exact h.above p h1 q hq'
      · rw [List.mem_singleton.1 h1]; exact hx q hq'
theorem Two.right {A B out a b : List Entry} (h : Two A B out a b) (hb : b ≠ []) (hd : ¬ ahead2 a b) : Two A B (out ++ [En.rec b 0]) a (b.drop 1) := by
  match b, hb with
  | z :: b, _ =>
    have hz : ∀ y ∈ a ++ (z :: b), ¬ less y z := fun y hy => by
      rcases List.mem_append.1 hy with h1 | h1
      · match a, h1 with
        | x :: a, h1 =>
          have h2 : ¬ less y x := Weak.head h.wa h1
          have h3 : ¬ less x z := fun h4 => hd (.inr ⟨by simp, h4⟩)
          exact less_neg_trans h3 h2
      · exact Weak.head h.wb h1
    refine ⟨?_, h.wa, (List.pairwise_cons.1 h.wb).2, ?_, ?_⟩
    · refine List.Perm.trans ?_ h.perm
      rw [List.append_assoc]
      exact List.Perm.append_left out (show (z :: (a ++ b)).Perm (a ++ z :: b) from List.perm_middle.symm)
    · rw [List.pairwise_append]
      exact ⟨h.wo, List.pairwise_singleton _ _, fun p hp q hq => by rw [List.mem_singleton.1 hq]; exact h.above p hp z (by simp)⟩
    · intro p hp q hq
      have hq' : q ∈ a ++ (z :: b) := by
        rcases List.mem_append.1 hq with h1 | h1
        · exact List.mem_append_left _ h1
        · exact List.mem_append_right _ (List.mem_cons_of_mem _ h1)
      rcases List.mem_append.1 hp with h1 | h1
      · exact h.above p h1 q hq'
      · rw [List.mem_singleton.1 h1]; exact hz q hq'
theorem Two.done {A B out : List Entry} (h : Two A B out [] []) : out.Perm (A ++ B) ∧ Weak out := ⟨by have := h.perm; simpa using this, h.wo⟩
theorem rises_weak {l : List Entry} (h : l.Pairwise less) : Weak l := h.imp (fun h => less_asymm h)

/-! ### Those that count -/
/-- The newest of its key at a number. -/
def top (l : List Entry) (q : Int) (x : Entry) : Prop := x.seq ≤ q ∧ ∀ y ∈ l, hit y x.key q → y.seq ≤ x.seq
instance (l : List Entry) (q : Int) (x : Entry) : Decidable (top l q x) := inferInstanceAs (Decidable (_ ∧ _))
/-- The same by places: no earlier entry of the key counts. -/
theorem top_at {l : List Entry} (hs : l.Pairwise less) {q : Int} {i : Nat} (hi : i < l.length) : top l q (rec l i) ↔ (rec l i).seq ≤ q ∧ ∀ j, j < i → ¬ hit (rec l j) (rec l i).key q := by
  constructor
  · rintro ⟨h1, h2⟩
    refine ⟨h1, fun j hj hh => ?_⟩
    have h3 := h2 _ (rec_mem (by omega)) hh
    have h4 := rises_at hs hj hi
    unfold less at h4
    rw [if_pos hh.1] at h4
    omega
  · rintro ⟨h1, h2⟩
    refine ⟨h1, fun y hy hh => ?_⟩
    obtain ⟨j, hj, rfl⟩ := List.getElem_of_mem hy
    rw [rec_eq hj] at hh ⊢
    rcases Nat.lt_trichotomy j i with h3 | h3 | h3
    · exact absurd hh (h2 j h3)
    · rw [h3]; exact Int.le_refl _
    · have h4 := rises_at hs h3 hj
      unfold less at h4
      rw [if_pos hh.1.symm] at h4
      omega
theorem newest_spec {l : List Entry} {k : List UInt8} {q : Int} {x : Entry} (h : newest l k q = some x) : ∃ j, j < l.length ∧ x = rec l j ∧ hit x k q ∧ ∀ i, i < j → ¬ hit (rec l i) k q := by
  rw [newest, List.find?_eq_some_iff_getElem] at h
  obtain ⟨h1, j, hj, h2, h3⟩ := h
  refine ⟨j, hj, by rw [← h2, rec_eq hj], of_decide_eq_true h1, fun i hi => ?_⟩
  have := h3 i hi
  rw [rec_eq (by omega)] at this
  simpa using this
theorem newest_top {l : List Entry} (hs : l.Pairwise less) {k : List UInt8} {q : Int} {x : Entry} (h : newest l k q = some x) : x ∈ l ∧ x.key = k ∧ top l q x := by
  obtain ⟨j, hj, rfl, hh, h3⟩ := newest_spec h
  exact ⟨rec_mem hj, hh.1, (top_at hs hj).2 ⟨hh.2, fun i hi => by rw [hh.1]; exact h3 i hi⟩⟩
theorem newest_some {l : List Entry} {k : List UInt8} {q : Int} {x : Entry} (hx : x ∈ l) (hh : hit x k q) : ∃ y, newest l k q = some y := by
  cases h : newest l k q with
  | some y => exact ⟨y, rfl⟩
  | none =>
    rw [newest, List.find?_eq_none] at h
    exact absurd (decide_eq_true hh) (h x hx)
theorem newest_iff {l : List Entry} (hs : l.Pairwise less) {q : Int} {i : Nat} (hi : i < l.length) (hq : (rec l i).seq ≤ q) (d : Entry) : (newest l (rec l i).key q).getD d = rec l i ↔ top l q (rec l i) := by
  obtain ⟨y, hy⟩ := newest_some (rec_mem hi) (⟨rfl, hq⟩ : hit (rec l i) (rec l i).key q)
  rw [hy]
  obtain ⟨j, hj, rfl, hh, h3⟩ := newest_spec hy
  constructor
  · intro h
    have e : rec l j = rec l i := h
    have := (newest_top hs hy).2.2
    rwa [e] at this
  · intro h
    have h4 := ((top_at hs hi).1 h).2
    rcases Nat.lt_trichotomy j i with h5 | h5 | h5
    · exact absurd hh (h4 j h5)
    · rw [h5]; rfl
    · exact absurd (⟨rfl, hq⟩ : hit (rec l i) (rec l i).key q) (h3 i h5)
def live (l : List Entry) (q : Int) : List Entry := l.filter fun x => decide (top l q x ∧ ¬ x.gone = true)
def thin (l : List Entry) (q : Int) (last : Bool) : List Entry := l.filter fun x => decide (q < x.seq ∨ (top l q x ∧ ¬ (last = true ∧ x.gone = true)))
def argE (q : Int) : Nat := if q < 0 ∨ 2147483647 < q then 2 else 0
def liveE (Ls : List (List Entry)) (q : Int) : Nat := if allE Ls ≠ 0 then allE Ls else argE q
def liveL (Ls : List (List Entry)) (q : Int) : List Entry := if liveE Ls q = 0 then live (allL Ls) q else []
theorem live_bad {Ls : List (List Entry)} {q : Int} (h : allE Ls ≠ 0) : liveE Ls q = allE Ls ∧ liveL Ls q = [] := by
  have e : liveE Ls q = allE Ls := if_pos h
  exact ⟨e, if_neg (by omega)⟩
theorem live_arg {Ls : List (List Entry)} {q : Int} (h : allE Ls = 0) (h1 : q < 0 ∨ 2147483647 < q) : liveE Ls q = 2 ∧ liveL Ls q = [] := by
  have e : liveE Ls q = 2 := by rw [liveE, if_neg (by omega), argE, if_pos h1]
  exact ⟨e, if_neg (by omega)⟩
theorem live_ok {Ls : List (List Entry)} {q : Int} (h : allE Ls = 0) (h1 : ¬ (q < 0 ∨ 2147483647 < q)) : liveE Ls q = 0 ∧ liveL Ls q = live (allL Ls) q := by
  have e : liveE Ls q = 0 := by rw [liveE, if_neg (by omega), argE, if_neg h1]
  exact ⟨e, if_pos e⟩
def thinE (l : List Entry) (q : Int) : Nat := if 16384 < l.length then 4 else if firstBad l 0 l.length ≠ 0 then firstBad l 0 l.length else argE q
def thinL (l : List Entry) (q : Int) (last : Bool) : List Entry := if thinE l q = 0 then thin l q last else []
theorem thin_many {l : List Entry} {q : Int} {t : Bool} (h : 16384 < l.length) : thinE l q = 4 ∧ thinL l q t = [] := by
  have e : thinE l q = 4 := if_pos h
  exact ⟨e, if_neg (by omega)⟩
theorem thin_bad {l : List Entry} {q : Int} {t : Bool} (h : ¬ 16384 < l.length) {i : Nat} (hi : i < l.length) (h0 : ∀ j, j < i → badAt l j = 0) (hb : badAt l i ≠ 0) : thinE l q = badAt l i ∧ thinL l q t = [] := by
  have e0 := firstBad_at (l := l) (n := l.length) (i := 0) (k := i) (by omega) (by omega) (fun j _ hj => h0 j hj) hb
  have e : thinE l q = badAt l i := by rw [thinE, if_neg h, e0, if_pos hb]
  exact ⟨e, if_neg (by omega)⟩
theorem thin_arg {l : List Entry} {q : Int} {t : Bool} (h : ¬ 16384 < l.length) (h0 : ∀ j, j < l.length → badAt l j = 0) (h1 : q < 0 ∨ 2147483647 < q) : thinE l q = 2 ∧ thinL l q t = [] := by
  have e0 := (firstBad_zero (l := l) (n := l.length) (i := 0)).2 (fun j _ hj => h0 j (by omega))
  have e : thinE l q = 2 := by rw [thinE, if_neg h, e0, if_neg (by omega), argE, if_pos h1]
  exact ⟨e, if_neg (by omega)⟩
theorem thin_ok {l : List Entry} {q : Int} {t : Bool} (h : ¬ 16384 < l.length) (h0 : ∀ j, j < l.length → badAt l j = 0) (h1 : ¬ (q < 0 ∨ 2147483647 < q)) : thinE l q = 0 ∧ thinL l q t = thin l q t := by
  have e0 := (firstBad_zero (l := l) (n := l.length) (i := 0)).2 (fun j _ hj => h0 j (by omega))
  have e : thinE l q = 0 := by rw [thinE, if_neg h, e0, if_neg (by omega), argE, if_neg h1]
  exact ⟨e, if_pos e⟩
theorem bads_rise {l : List Entry} (h : ∀ j, j < l.length → badAt l j = 0) : l.Pairwise less := rises fun i h1 h2 => (bad_zero (h i h2)).2 h1
theorem thin_zero {l : List Entry} {q : Int} (h : thinE l q = 0) : l.length ≤ 16384 ∧ (∀ j, j < l.length → badAt l j = 0) ∧ ¬ (q < 0 ∨ 2147483647 < q) := by
  unfold thinE at h
  split at h
  · omega
  · split at h
    · omega
    · rename_i h1 h2
      refine ⟨by omega, fun j hj => firstBad_zero.1 (by omega : firstBad l 0 l.length = 0) j (by omega) (by omega), fun h3 => ?_⟩
      rw [argE, if_pos h3] at h
      omega
theorem filt_yes {l : List Entry} {f : Entry → Bool} {j : Nat} (h : j < l.length) (hf : f (rec l j) = true) : (l.take (j + 1)).filter f = (l.take j).filter f ++ [rec l j] := by
  rw [take_snoc h, List.filter_append]; simp [hf, List.filter_cons]
theorem filt_no {l : List Entry} {f : Entry → Bool} {j : Nat} (h : j < l.length) (hf : f (rec l j) = false) : (l.take (j + 1)).filter f = (l.take j).filter f := by
  rw [take_snoc h, List.filter_append]; simp [hf, List.filter_cons]
theorem filt_len (l : List Entry) (f : Entry → Bool) (j : Nat) : ((l.take j).filter f).length ≤ j := by
  have h := List.length_filter_le f (l.take j)
  rw [List.length_take] at h; omega
end Go.En
