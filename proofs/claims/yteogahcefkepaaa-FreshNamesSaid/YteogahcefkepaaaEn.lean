/-
  Entries in plain Lean: their order, what may be wrong with them, rows that rise. No program in sight.
-/
import GoSem.Op.String
namespace Go.En
structure Entry where
  key : List UInt8
  value : List UInt8
  seq : Int
  gone : Bool
  deriving DecidableEq, Inhabited
/-- One text stands ahead of another one, byte by byte. -/
def bl (l m : List UInt8) : Prop := Op.bytesLess l m = true
instance (l m : List UInt8) : Decidable (bl l m) := inferInstanceAs (Decidable (_ = true))
theorem bl_nil_nil : ¬ bl [] [] := by simp [bl, Op.bytesLess]
theorem bl_irrefl : ∀ l : List UInt8, ¬ bl l l
  | [] => by simp [bl, Op.bytesLess]
  | a :: r => by have := bl_irrefl r; simpa [bl, Op.bytesLess] using this
theorem bl_cons {a b : UInt8} {r s : List UInt8} : bl (a :: r) (b :: s) ↔ a < b ∨ (a = b ∧ bl r s) := by
  simp only [bl, Op.bytesLess]
  by_cases h : a < b
  · simp [h]
  · by_cases h2 : b < a
    · have : a ≠ b := fun e => by subst e; exact absurd h2 h
      simp [h, h2, this]
    · have : a = b := by
        apply UInt8.toNat.inj
        have h3 : ¬ a.toNat < b.toNat := h
        have h4 : ¬ b.toNat < a.toNat := h2
        omega
      simp [this]
theorem bl_trans : ∀ {l m n : List UInt8}, bl l m → bl m n → bl l n
  | [], [], _, h, _ => absurd h bl_nil_nil
  | [], _ :: _, [], _, h => by simp [bl, Op.bytesLess] at h
  | [], _ :: _, _ :: _, _, _ => by simp [bl, Op.bytesLess]
  | _ :: _, [], _, h, _ => by simp [bl, Op.bytesLess] at h
  | _ :: _, _ :: _, [], _, h => by simp [bl, Op.bytesLess] at h
  | a :: r, b :: s, c :: t, h1, h2 => by
    rw [bl_cons] at h1 h2 ⊢
    rcases h1 with h1 | ⟨rfl, h1⟩
    · rcases h2 with h2 | ⟨rfl, h2⟩
      · exact .inl (by have h3 : a.toNat < b.toNat := h1; have h4 : b.toNat < c.toNat := h2; exact (show a.toNat < c.toNat by omega))
      · exact .inl h1
    · rcases h2 with h2 | ⟨rfl, h2⟩
      · exact .inl h2
      · exact .inr ⟨rfl, bl_trans h1 h2⟩
theorem bl_total : ∀ (l m : List UInt8), bl l m ∨ l = m ∨ bl m l
  | [], [] => .inr (.inl rfl)
  | [], _ :: _ => .inl (by simp [bl, Op.bytesLess])
  | _ :: _, [] => .inr (.inr (by simp [bl, Op.bytesLess]))
  | a :: r, b :: s => by
    rw [bl_cons, bl_cons]
    rcases Nat.lt_trichotomy a.toNat b.toNat with h | h | h
    · exact .inl (.inl h)
    · have e : a = b := UInt8.toNat.inj h
      subst e
      rcases bl_total r s with h2 | h2 | h2
      · exact .inl (.inr ⟨rfl, h2⟩)
      · exact .inr (.inl (by rw [h2]))
      · exact .inr (.inr (.inr ⟨rfl, h2⟩))
    · exact .inr (.inr (.inl h))
theorem bl_asymm {l m : List UInt8} (h : bl l m) : ¬ bl m l := fun h2 => bl_irrefl l (bl_trans h h2)

def cmpI (a b : Int) : Int := if a < b then -1 else if b < a then 1 else 0
def cmpS (l m : List UInt8) : Int := if bl l m then -1 else if bl l m ∨ l = m then 0 else 1
/-- The first that is not 0. -/
def orI : List Int → Int
  | [] => 0
  | a :: r => if a ≠ 0 then a else orI r
/-- One entry stands ahead of another one: by key, and then the newest first. -/
def less (a b : Entry) : Prop := if a.key = b.key then b.seq < a.seq else bl a.key b.key
instance (a b : Entry) : Decidable (less a b) := by unfold less; infer_instance
theorem cmpI_neg {a b : Int} : cmpI a b < 0 ↔ a < b := by unfold cmpI; split <;> (try split) <;> omega
theorem cmpI_zero {a b : Int} : cmpI a b = 0 ↔ a = b := by unfold cmpI; split <;> (try split) <;> omega
theorem cmpS_neg {l m : List UInt8} : cmpS l m < 0 ↔ bl l m := by
  unfold cmpS
  split
  · simp_all
  · split <;> simp_all
theorem cmpS_zero {l m : List UInt8} : cmpS l m = 0 ↔ l = m := by
  unfold cmpS
  split
  · rename_i h
    exact ⟨fun h' => by omega, fun e => by subst e; exact absurd h (bl_irrefl l)⟩
  · rename_i h
    split
    · rename_i h'
      exact ⟨fun _ => h'.resolve_left h, fun _ => rfl⟩
    · rename_i h'
      exact ⟨fun e => by omega, fun e => (h' (.inr e)).elim⟩
theorem less_cmp (a b : Entry) : orI [cmpS a.key b.key, cmpI b.seq a.seq] < 0 ↔ less a b := by
  unfold less orI orI orI
  by_cases h : a.key = b.key
  · rw [if_pos h, if_neg (by simp [cmpS_zero.2 h])]
    by_cases h2 : cmpI b.seq a.seq = 0
    · rw [if_neg (by simp [h2])]
      have := cmpI_zero.1 h2
      omega
    · rw [if_pos h2]; exact cmpI_neg
  · rw [if_neg h, if_pos (fun h2 => h (cmpS_zero.1 h2))]; exact cmpS_neg
theorem less_irrefl (a : Entry) : ¬ less a a := by simp [less]
theorem less_trans {a b c : Entry} (h1 : less a b) (h2 : less b c) : less a c := by
  unfold less at *
  by_cases e1 : a.key = b.key
  · rw [if_pos e1] at h1
    by_cases e2 : b.key = c.key
    · rw [if_pos e2] at h2; rw [if_pos (e1.trans e2)]; omega
    · rw [if_neg e2] at h2; rw [if_neg (by rw [e1]; exact e2), e1]; exact h2
  · rw [if_neg e1] at h1
    by_cases e2 : b.key = c.key
    · rw [if_neg (by rw [← e2]; exact e1), ← e2]; exact h1
    · rw [if_neg e2] at h2
      have h3 := bl_trans h1 h2
      rw [if_neg (fun e => by rw [e] at h3; exact bl_irrefl _ h3)]; exact h3
theorem less_asymm {a b : Entry} (h : less a b) : ¬ less b a := fun h2 => less_irrefl a (less_trans h h2)
/-- Neither stands ahead: the same key, the same number. -/
theorem less_total (a b : Entry) : less a b ∨ (a.key = b.key ∧ a.seq = b.seq) ∨ less b a := by
  unfold less
  by_cases e : a.key = b.key
  · rw [if_pos e, if_pos e.symm]
    rcases Int.lt_trichotomy a.seq b.seq with h | h | h
    · exact .inr (.inr h)
    · exact .inr (.inl ⟨e, h⟩)
    · exact .inl h
  · rw [if_neg e, if_neg (fun h => e h.symm)]
    rcases bl_total a.key b.key with h | h | h
    · exact .inl h
    · exact absurd h e
    · exact .inr (.inr h)
theorem less_tie {a b : Entry} (hk : a.key = b.key) (hs : a.seq = b.seq) : ¬ less a b := fun h => by
  unfold less at h
  rw [if_pos hk] at h; omega
theorem less_neg_trans {a b c : Entry} (h1 : ¬ less b a) (h2 : ¬ less c b) : ¬ less c a := fun h3 => by
  rcases less_total a b with h | ⟨hk, hs⟩ | h
  · exact h2 (less_trans h3 h)
  · refine h2 ?_
    unfold less at h3 ⊢
    rw [← hk, ← hs]; exact h3
  · exact h1 h

/-- What is wrong with an entry. -/
def one (x : Entry) : Nat := if x.key.length < 1 ∨ 256 < x.key.length then 60 else if 4096 < x.value.length then 3 else if x.seq < 0 ∨ 2147483647 < x.seq then 2 else if x.gone = true ∧ x.value ≠ [] then 8 else 0
theorem one_key {x : Entry} (h : x.key.length < 1 ∨ 256 < x.key.length) : one x = 60 := if_pos h
theorem one_text {x : Entry} (h : ¬ (x.key.length < 1 ∨ 256 < x.key.length)) (h1 : 4096 < x.value.length) : one x = 3 := by rw [one, if_neg h, if_pos h1]
theorem one_arg {x : Entry} (h : ¬ (x.key.length < 1 ∨ 256 < x.key.length)) (h1 : ¬ 4096 < x.value.length) (h2 : x.seq < 0 ∨ 2147483647 < x.seq) : one x = 2 := by rw [one, if_neg h, if_neg h1, if_pos h2]
theorem one_bad {x : Entry} (h : ¬ (x.key.length < 1 ∨ 256 < x.key.length)) (h1 : ¬ 4096 < x.value.length) (h2 : ¬ (x.seq < 0 ∨ 2147483647 < x.seq)) (h3 : x.gone = true ∧ x.value ≠ []) : one x = 8 := by rw [one, if_neg h, if_neg h1, if_neg h2, if_pos h3]
theorem one_ok {x : Entry} (h : ¬ (x.key.length < 1 ∨ 256 < x.key.length)) (h1 : ¬ 4096 < x.value.length) (h2 : ¬ (x.seq < 0 ∨ 2147483647 < x.seq)) (h3 : ¬ (x.gone = true ∧ x.value ≠ [])) : one x = 0 := by rw [one, if_neg h, if_neg h1, if_neg h2, if_neg h3]
theorem one_zero {x : Entry} (h : one x = 0) : 1 ≤ x.key.length ∧ x.key.length ≤ 256 ∧ 0 ≤ x.seq ∧ x.seq ≤ 2147483647 := by
  unfold one at h
  split at h
  · omega
  · split at h
    · omega
    · split at h
      · omega
      · omega

/-- The entry at a place. -/
def rec (l : List Entry) (i : Nat) : Entry := l.getD i default
theorem rec_mem {l : List Entry} {i : Nat} (h : i < l.length) : rec l i ∈ l := by
  rw [rec, List.getD_eq_getElem?_getD, List.getElem?_eq_getElem h]; exact List.getElem_mem h
theorem rec_eq {l : List Entry} {i : Nat} (h : i < l.length) : l[i] = rec l i := by
  rw [rec, List.getD_eq_getElem?_getD, List.getElem?_eq_getElem h]; rfl
theorem rec_get {l : List Entry} {i : Nat} (h : i < l.length) : l[i]? = some (rec l i) := by rw [List.getElem?_eq_getElem h, rec_eq h]
theorem take_snoc {l : List Entry} {i : Nat} (h : i < l.length) : l.take (i + 1) = l.take i ++ [rec l i] := by
  rw [List.take_add_one, List.getElem?_eq_getElem h, rec_eq h]; rfl
theorem rec_drop {l : List Entry} {i j : Nat} : rec (l.drop i) j = rec l (i + j) := by
  rw [rec, rec, List.getD_eq_getElem?_getD, List.getD_eq_getElem?_getD, List.getElem?_drop]
theorem rec_take {l : List Entry} {i j : Nat} (h : j < i) : rec (l.take i) j = rec l j := by
  rw [rec, rec, List.getD_eq_getElem?_getD, List.getD_eq_getElem?_getD, List.getElem?_take, if_pos h]
theorem rec_last (l : List Entry) (x : Entry) : rec (l ++ [x]) l.length = x := by simp [rec]
theorem rec_left {l m : List Entry} {i : Nat} (h : i < l.length) : rec (l ++ m) i = rec l i := by
  rw [rec, rec, List.getD_eq_getElem?_getD, List.getD_eq_getElem?_getD, List.getElem?_append_left h]
theorem rec_ext {l m : List Entry} (h : l.length = m.length) (h2 : ∀ j, j < l.length → rec l j = rec m j) : l = m := by
  apply List.ext_getElem h
  intro i h3 h4
  rw [rec_eq h3, rec_eq h4]; exact h2 i h3

/-- What is wrong at a place. -/
def badAt (l : List Entry) (i : Nat) : Nat := if one (rec l i) ≠ 0 then one (rec l i) else if 0 < i ∧ ¬ less (rec l (i - 1)) (rec l i) then 100 else 0
/-- What is wrong first, of 'n' places from 'i' on. -/
def firstBad (l : List Entry) (i : Nat) : Nat → Nat
  | 0 => 0
  | n + 1 => if badAt l i ≠ 0 then badAt l i else firstBad l (i + 1) n
theorem firstBad_zero {l : List Entry} : ∀ {n i : Nat}, firstBad l i n = 0 ↔ ∀ j, i ≤ j → j < i + n → badAt l j = 0
  | 0, i => ⟨fun _ j h1 h2 => by omega, fun _ => rfl⟩
  | n + 1, i => by
    rw [firstBad]
    split
    · rename_i h
      exact ⟨fun h' => absurd h' h, fun h' => absurd (h' i (Nat.le_refl _) (by omega)) h⟩
    · rename_i h
      rw [firstBad_zero]
      constructor
      · intro h' j h1 h2
        rcases Nat.eq_or_lt_of_le h1 with e | e
        · subst e; omega
        · exact h' j (by omega) (by omega)
      · intro h' j h1 h2; exact h' j (by omega) (by omega)
theorem firstBad_at {l : List Entry} : ∀ {n i k : Nat}, i ≤ k → k < i + n → (∀ j, i ≤ j → j < k → badAt l j = 0) → badAt l k ≠ 0 → firstBad l i n = badAt l k
  | 0, _, _, h1, h2, _, _ => by omega
  | n + 1, i, k, h1, h2, h3, h4 => by
    rw [firstBad]
    rcases Nat.eq_or_lt_of_le h1 with e | e
    · subst e; rw [if_pos h4]
    · rw [if_neg (by have := h3 i (Nat.le_refl _) e; omega)]
      exact firstBad_at (by omega) (by omega) (fun j h5 h6 => h3 j (by omega) h6) h4
/-- Is a row as it may be? -/
def checkE (l : List Entry) : Nat := if 4096 < l.length then 4 else firstBad l 0 l.length
theorem check_many {l : List Entry} (h : 4096 < l.length) : checkE l = 4 := if_pos h
theorem check_at {l : List Entry} (h : ¬ 4096 < l.length) {i : Nat} (hi : i < l.length) (h0 : ∀ j, j < i → badAt l j = 0) (hb : badAt l i ≠ 0) : checkE l = badAt l i := by
  rw [checkE, if_neg h]; exact firstBad_at (by omega) (by omega) (fun j _ hj => h0 j hj) hb
theorem check_ok {l : List Entry} (h : ¬ 4096 < l.length) (h0 : ∀ j, j < l.length → badAt l j = 0) : checkE l = 0 := by
  rw [checkE, if_neg h]; exact firstBad_zero.2 (fun j _ hj => h0 j (by omega))
theorem check_zero {l : List Entry} (h : checkE l = 0) : l.length ≤ 4096 ∧ ∀ j, j < l.length → badAt l j = 0 := by
  unfold checkE at h
  split at h
  · omega
  · exact ⟨by omega, fun j hj => firstBad_zero.1 h j (by omega) (by omega)⟩
theorem bad_one {l : List Entry} {i : Nat} (h : one (rec l i) ≠ 0) : badAt l i = one (rec l i) := if_pos h
theorem bad_order {l : List Entry} {i : Nat} (h : ¬ one (rec l i) ≠ 0) (h2 : 0 < i ∧ ¬ less (rec l (i - 1)) (rec l i)) : badAt l i = 100 := by rw [badAt, if_neg h, if_pos h2]
theorem bad_ok {l : List Entry} {i : Nat} (h : ¬ one (rec l i) ≠ 0) (h2 : ¬ (0 < i ∧ ¬ less (rec l (i - 1)) (rec l i))) : badAt l i = 0 := by rw [badAt, if_neg h, if_neg h2]
theorem bad_zero {l : List Entry} {i : Nat} (h : badAt l i = 0) : one (rec l i) = 0 ∧ (0 < i → less (rec l (i - 1)) (rec l i)) := by
  unfold badAt at h
  split at h
  · omega
  · rename_i h1
    split at h
    · omega
    · rename_i h2
      exact ⟨by omega, fun h3 => Decidable.not_not.1 (fun h4 => h2 ⟨h3, h4⟩)⟩
/-- Neighbours that rise: all rise. -/
theorem rises {l : List Entry} (h : ∀ i, 0 < i → i < l.length → less (rec l (i - 1)) (rec l i)) : l.Pairwise less := by
  rw [List.pairwise_iff_getElem]
  intro i j hi hj hij
  rw [rec_eq hi, rec_eq hj]
  have key : ∀ d, i + 1 + d < l.length → less (rec l i) (rec l (i + 1 + d)) := by
    intro d
    induction d with
    | zero => intro hd; have := h (i + 1) (by omega) (by omega); rwa [Nat.add_sub_cancel] at this
    | succ d ih =>
      intro hd
      have h1 := ih (by omega)
      have h2 := h (i + 1 + (d + 1)) (by omega) (by omega)
      rw [show i + 1 + (d + 1) - 1 = i + 1 + d by omega] at h2
      exact less_trans h1 h2
  have := key (j - (i + 1)) (by omega)
  rwa [show i + 1 + (j - (i + 1)) = j by omega] at this
theorem rises_at {l : List Entry} (h : l.Pairwise less) {i j : Nat} (hij : i < j) (hj : j < l.length) : less (rec l i) (rec l j) := by
  have := List.pairwise_iff_getElem.1 h i j (by omega) hj hij
  rwa [rec_eq (by omega), rec_eq hj] at this
theorem check_rises {l : List Entry} (h : checkE l = 0) : l.Pairwise less := rises fun i h1 h2 => (bad_zero ((check_zero h).2 i h2)).2 h1
theorem check_ones {l : List Entry} (h : checkE l = 0) : ∀ x ∈ l, one x = 0 := fun x hx => by
  obtain ⟨j, hj, rfl⟩ := List.getElem_of_mem hx
  rw [rec_eq hj]; exact (bad_zero ((check_zero h).2 j hj)).1
theorem check_of {l : List Entry} (h1 : l.length ≤ 4096) (h2 : ∀ x ∈ l, one x = 0) (h3 : l.Pairwise less) : checkE l = 0 :=
  check_ok (by omega) fun j hj => bad_ok (by have := h2 _ (rec_mem hj); omega) (fun ⟨h4, h5⟩ => h5 (rises_at h3 (by omega) hj))
/-- Two rows that rise and have the same entries are the same. -/
theorem rises_eq {l m : List Entry} (h1 : l.Pairwise less) (h2 : m.Pairwise less) (hp : l.Perm m) : l = m :=
  List.Perm.eq_of_pairwise (fun _ _ _ _ h3 h4 => absurd h4 (less_asymm h3)) h1 h2 hp
/-- The newest of a key at a number: the first of that key whose number is not above. -/
def hit (x : Entry) (k : List UInt8) (n : Int) : Prop := x.key = k ∧ x.seq ≤ n
instance (x : Entry) (k : List UInt8) (n : Int) : Decidable (hit x k n) := inferInstanceAs (Decidable (_ ∧ _))
def newest (l : List Entry) (k : List UInt8) (n : Int) : Option Entry := l.find? fun x => decide (hit x k n)
end Go.En
