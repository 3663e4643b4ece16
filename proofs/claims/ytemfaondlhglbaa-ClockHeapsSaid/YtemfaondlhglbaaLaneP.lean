/-
  Heaps in plain Lean: rows in which no element stands ahead of its parent. No program in sight.
-/
namespace Go.Hp
section
variable {α : Type} [Inhabited α]
/-- The element at a place. -/
def g (l : List α) (i : Nat) : α := l.getD i default
theorem g_eq {l : List α} {i : Nat} (h : i < l.length) : l[i] = g l i := by
  rw [g, List.getD_eq_getElem?_getD, List.getElem?_eq_getElem h]; rfl
theorem g_mem {l : List α} {i : Nat} (h : i < l.length) : g l i ∈ l := by
  rw [← g_eq h]; exact List.getElem_mem h
/-- Two elements change their places. -/
def sw (l : List α) (i j : Nat) : List α := (l.set i (g l j)).set j (g l i)
theorem len_sw (l : List α) (i j : Nat) : (sw l i j).length = l.length := by simp [sw]
theorem g_set {l : List α} {i k : Nat} (x : α) (h : i < l.length) : g (l.set i x) k = if k = i then x else g l k := by
  rw [g, g, List.getD_eq_getElem?_getD, List.getD_eq_getElem?_getD, List.getElem?_set]
  by_cases hk : k = i
  · subst hk; simp [h]
  · rw [if_neg (fun e => hk e.symm), if_neg hk]
theorem g_sw {l : List α} {i j : Nat} (hi : i < l.length) (hj : j < l.length) (k : Nat) : g (sw l i j) k = if k = j then g l i else if k = i then g l j else g l k := by
  rw [sw, g_set _ (by simpa using hj), g_set _ hi]
theorem perm_sw {l : List α} {i j : Nat} (hi : i < l.length) (hj : j < l.length) : (sw l i j).Perm l := by
  classical
  rw [List.perm_iff_count]
  intro a
  rw [sw, List.count_set (by simpa using hj), List.count_set hi, List.getElem_set, g_eq hi]
  have c1 : 0 < l.count (g l i) := List.count_pos_iff.2 (g_mem hi)
  have c2 : 0 < l.count (g l j) := List.count_pos_iff.2 (g_mem hj)
  by_cases hij : i = j
  · subst hij
    simp only [if_true, beq_iff_eq]
    by_cases ha : g l i = a
    · subst ha; simp; omega
    · simp [ha]
  · rw [if_neg hij, g_eq hj]
    simp only [beq_iff_eq]
    by_cases ha : g l i = a
    · subst ha
      by_cases hb : g l j = g l i
      · simp [hb]; omega
      · simp [hb]; omega
    · by_cases hb : g l j = a
      · subst hb; simp [ha]
      · simp [ha, hb]

variable (lt : α → α → Prop)
/-- What the order has to obey. -/
structure Ord : Prop where
  asymm : ∀ a b, lt a b → ¬ lt b a
  trans : ∀ a b c, ¬ lt b a → ¬ lt c b → ¬ lt c a
/-- Of the first 'n', those whose parent is 'i0' or behind it do not stand ahead of it. -/
def Heap (l : List α) (n i0 : Nat) : Prop := ∀ k, 0 < k → k < n → i0 ≤ (k - 1) / 2 → ¬ lt (g l k) (g l ((k - 1) / 2))
structure Down (l : List α) (n i0 i : Nat) : Prop where
  ok : ∀ k, 0 < k → k < n → i0 ≤ (k - 1) / 2 → (k - 1) / 2 ≠ i → ¬ lt (g l k) (g l ((k - 1) / 2))
  kids : ∀ c, 0 < c → c < n → (c - 1) / 2 = i → 0 < i → i0 ≤ (i - 1) / 2 → ¬ lt (g l c) (g l ((i - 1) / 2))
structure Up (l : List α) (n j : Nat) : Prop where
  ok : ∀ k, 0 < k → k < n → k ≠ j → ¬ lt (g l k) (g l ((k - 1) / 2))
  kids : ∀ c, 0 < c → c < n → (c - 1) / 2 = j → 0 < j → ¬ lt (g l c) (g l ((j - 1) / 2))
variable {lt}
theorem Down.start {l : List α} {n i0 : Nat} (h : Heap lt l n (i0 + 1)) : Down lt l n i0 i0 :=
  ⟨fun k h1 h2 h3 h4 => h k h1 h2 (by omega), fun c h1 h2 h3 h4 h5 => by omega⟩
theorem Heap.start' {l : List α} {n i0 : Nat} (h : Heap lt l n (i0 + 1)) : Down lt l n i0 i0 := Down.start h
theorem take_snoc {l : List α} {i : Nat} (h : i < l.length) : l.take (i + 1) = l.take i ++ [g l i] := by
  rw [List.take_add_one, List.getElem?_eq_getElem h, g_eq h]; rfl
/-- The child of 'i' that is asked. -/
def Child (lt : α → α → Prop) (l : List α) (n i j : Nat) : Prop := (j = 2 * i + 1 ∧ (2 * i + 2 < n → ¬ lt (g l (2 * i + 2)) (g l (2 * i + 1)))) ∨ (j = 2 * i + 2 ∧ lt (g l (2 * i + 2)) (g l (2 * i + 1)))
theorem Down.leaf {l : List α} {n i0 i : Nat} (h : Down lt l n i0 i) (hn : n ≤ 2 * i + 1) : Heap lt l n i0 := fun k h1 h2 h3 => h.ok k h1 h2 h3 (by omega)
theorem Child.le (o : Ord lt) {l : List α} {n i j : Nat} (h : Child lt l n i j) {c : Nat} (h1 : 0 < c) (h2 : c < n) (h3 : (c - 1) / 2 = i) : ¬ lt (g l c) (g l j) := by
  have hc : c = 2 * i + 1 ∨ c = 2 * i + 2 := by omega
  rcases h with ⟨rfl, h⟩ | ⟨rfl, h⟩ <;> rcases hc with rfl | rfl
  · intro h'; exact o.asymm _ _ h' h'
  · exact h h2
  · exact o.asymm _ _ h
  · intro h'; exact o.asymm _ _ h' h'
theorem Down.stop (o : Ord lt) {l : List α} {n i0 i j : Nat} (h : Down lt l n i0 i) (hc : Child lt l n i j) (hl : ¬ lt (g l j) (g l i)) : Heap lt l n i0 := fun k h1 h2 h3 => by
  by_cases hk : (k - 1) / 2 = i
  · rw [hk]; exact o.trans _ _ _ hl (hc.le o h1 h2 hk)
  · exact h.ok k h1 h2 h3 hk
theorem Down.next (o : Ord lt) {l : List α} {n i0 i j : Nat} (hn : n ≤ l.length) (hj : j < n) (hi : i0 ≤ i) (h : Down lt l n i0 i) (hc : Child lt l n i j) (hl : lt (g l j) (g l i)) : Down lt (sw l i j) n i0 j := by
  have hpj : 0 < j ∧ (j - 1) / 2 = i := by rcases hc with ⟨rfl, _⟩ | ⟨rfl, _⟩ <;> omega
  have hij : i < l.length := by omega
  have hjl : j < l.length := by omega
  refine ⟨fun k h1 h2 h3 h4 => ?_, fun c h1 h2 h3 h4 h5 => ?_⟩
  · rw [g_sw hij hjl, g_sw hij hjl, if_neg h4]
    by_cases hkj : k = j
    · subst hkj; rw [if_pos rfl, if_pos hpj.2]; exact o.asymm _ _ hl
    · rw [if_neg hkj]
      by_cases hki : k = i
      · subst hki
        rw [if_pos rfl, if_neg (by omega)]
        exact h.kids j hpj.1 hj hpj.2 h1 h3
      · rw [if_neg hki]
        by_cases hp : (k - 1) / 2 = i
        · rw [if_pos hp]; exact hc.le o h1 h2 hp
        · rw [if_neg hp]; exact h.ok k h1 h2 h3 hp
  · rw [g_sw hij hjl, g_sw hij hjl, if_neg (by omega), if_neg (by omega), hpj.2, if_neg (by omega), if_pos rfl]
    have := h.ok c h1 h2 (by omega) (by omega)
    rwa [h3] at this
theorem Up.stop {l : List α} {n j : Nat} (h : Up lt l n j) (hl : j = 0 ∨ ¬ lt (g l j) (g l ((j - 1) / 2))) : Heap lt l n 0 := fun k h1 h2 _ => by
  by_cases hk : k = j
  · subst hk; rcases hl with hl | hl
    · omega
    · exact hl
  · exact h.ok k h1 h2 hk
theorem Up.next (o : Ord lt) {l : List α} {n j : Nat} (hn : n ≤ l.length) (hj : j < n) (hj0 : 0 < j) (h : Up lt l n j) (hl : lt (g l j) (g l ((j - 1) / 2))) : Up lt (sw l ((j - 1) / 2) j) n ((j - 1) / 2) := by
  have hjl : j < l.length := by omega
  obtain ⟨i, hi⟩ : ∃ i, (j - 1) / 2 = i := ⟨_, rfl⟩
  rw [hi] at hl ⊢
  have hij : i < l.length := by omega
  refine ⟨fun k h1 h2 h4 => ?_, fun c h1 h2 h3 h4 => ?_⟩
  · rw [g_sw hij hjl, g_sw hij hjl, if_neg h4]
    by_cases hkj : k = j
    · subst hkj; rw [if_pos rfl, hi, if_neg (by omega), if_pos rfl]; exact o.asymm _ _ hl
    · rw [if_neg hkj]
      by_cases hpj : (k - 1) / 2 = j
      · rw [if_pos hpj]
        have := h.kids k h1 h2 hpj hj0
        rwa [hi] at this
      · rw [if_neg hpj]
        by_cases hpi : (k - 1) / 2 = i
        · rw [if_pos hpi]
          have := h.ok k h1 h2 hkj
          rw [hpi] at this
          exact o.trans _ _ _ (o.asymm _ _ hl) this
        · rw [if_neg hpi]; exact h.ok k h1 h2 hkj
  · have hoi := h.ok i h4 (by omega) (by omega)
    rw [g_sw hij hjl, g_sw hij hjl, if_neg (by omega : (i - 1) / 2 ≠ j), if_neg (by omega : (i - 1) / 2 ≠ i)]
    by_cases hcj : c = j
    · rw [if_pos hcj]; exact hoi
    · rw [if_neg hcj, if_neg (by omega)]
      have := h.ok c h1 h2 hcj
      rw [h3] at this
      exact o.trans _ _ _ hoi this
theorem Heap.root (o : Ord lt) {l : List α} {n : Nat} (h : Heap lt l n 0) : ∀ k, k < n → ¬ lt (g l k) (g l 0) := by
  intro k
  induction k using Nat.strongRecOn with
  | _ k ih =>
    intro hk
    rcases Nat.eq_zero_or_pos k with h0 | h0
    · subst h0; intro h'; exact o.asymm _ _ h' h'
    · exact o.trans _ _ _ (ih ((k - 1) / 2) (by omega) (by omega)) (h k h0 hk (by omega))
theorem g_take {l : List α} {n k : Nat} (h : k < n) : g (l.take n) k = g l k := by
  rw [g, g, List.getD_eq_getElem?_getD, List.getD_eq_getElem?_getD, List.getElem?_take, if_pos h]
theorem Heap.take {l : List α} {n i0 : Nat} (h : Heap lt l n i0) : Heap lt (l.take n) n i0 := fun k h1 h2 h3 => by
  rw [g_take h2, g_take (by omega)]; exact h k h1 h2 h3
theorem g_app {l m : List α} {k : Nat} (h : k < l.length) : g (l ++ m) k = g l k := by
  rw [g, g, List.getD_eq_getElem?_getD, List.getD_eq_getElem?_getD, List.getElem?_append_left h]
/-- One more behind a heap. -/
theorem Heap.push {l : List α} (h : Heap lt l l.length 0) (x : α) : Up lt (l ++ [x]) (l.length + 1) l.length :=
  ⟨fun k h1 h2 h3 => by
    rw [g_app (by omega), g_app (by omega)]; exact h k h1 (by omega) (by omega), fun c h1 h2 h3 h4 => by omega⟩
/-- The last one put in the root's place. -/
theorem Heap.pop {l : List α} {n : Nat} (h : Heap lt l (n + 1) 0) (hn : n + 1 = l.length) : Down lt (sw l 0 n) n 0 0 :=
  ⟨fun k h1 h2 h3 h4 => by
    rw [g_sw (by omega) (by omega), g_sw (by omega) (by omega), if_neg (by omega), if_neg (by omega), if_neg (by omega), if_neg h4]
    exact h k h1 (by omega) (by omega), fun c h1 h2 h3 h4 => by omega⟩
theorem Down.pop {l : List α} {n : Nat} (h : Down lt l (n + 1) 0 0) (hn : n + 1 = l.length) : Down lt (sw l 0 n) n 0 0 :=
  ⟨fun k h1 h2 h3 h4 => by
    rw [g_sw (by omega) (by omega), g_sw (by omega) (by omega), if_neg (by omega), if_neg (by omega), if_neg (by omega), if_neg h4]
    exact h.ok k h1 (by omega) (by omega) h4, fun c h1 h2 h3 h4 => by omega⟩
/-- The root's element turned. -/
theorem Heap.turn {l : List α} {n : Nat} (h : Heap lt l n 0) (x : α) (hn : 0 < l.length) : Down lt (l.set 0 x) n 0 0 :=
  ⟨fun k h1 h2 h3 h4 => by
    rw [g_set _ hn, g_set _ hn, if_neg (by omega), if_neg h4]
    exact h k h1 h2 (by omega), fun c h1 h2 h3 h4 => by omega⟩
theorem Heap.leaves (l : List α) (n : Nat) : Heap lt l n (n / 2) := fun k h1 h2 h3 => by omega
end
end Go.Hp
