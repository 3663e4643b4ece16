/-
  Keys made of parts, and cut again: in plain Lean. No program in sight.
-/
import Derived.Test.YtkgckmdhlokjmaaDoorOrd
namespace Go.Key
/-- So many bytes of a number, the greatest first. -/
def beN : Nat → Nat → List UInt8
  | 0, _ => []
  | k + 1, n => beN k (n / 256) ++ [UInt8.ofNat (n % 256)]
theorem beN_len : ∀ k n, (beN k n).length = k
  | 0, _ => rfl
  | k + 1, n => by rw [beN, List.length_append, beN_len k]; rfl
/-- The number again. -/
def num (l : List UInt8) : Nat := l.foldl (fun a b => a * 256 + b.toNat) 0
theorem num_snoc (l : List UInt8) (b : UInt8) : num (l ++ [b]) = num l * 256 + b.toNat := by rw [num, List.foldl_append]; rfl
theorem num_beN : ∀ k n, num (beN k n) = n % 256 ^ k
  | 0, n => by simp [beN, num, Nat.mod_one]
  | k + 1, n => by
    have e : 256 ^ (k + 1) = 256 * 256 ^ k := by rw [Nat.pow_succ, Nat.mul_comm]
    rw [beN, num_snoc, num_beN k, UInt8.toNat_ofNat', e, Nat.mod_mul]
    omega
/-- Bytes are those of their number. -/
theorem beN_num : ∀ (k : Nat) (l : List UInt8), l.length = k → beN k (num l) = l
  | 0, l, h => by rw [List.eq_nil_of_length_eq_zero h]; rfl
  | k + 1, l, h => by
    obtain ⟨m, x, rfl⟩ : ∃ m x, l = m ++ [x] := ⟨l.dropLast, l.getLast (by intro e; rw [e] at h; simp at h), (List.dropLast_concat_getLast _).symm⟩
    have hm : m.length = k := by simpa using h
    have hx := UInt8.toNat_lt x
    have h1 : (num m * 256 + x.toNat) / 256 = num m := by omega
    have h2 : (num m * 256 + x.toNat) % 256 = x.toNat := by omega
    rw [num_snoc, beN, h1, h2, beN_num k m hm, UInt8.ofNat_toNat]
theorem num_lt (l : List UInt8) : num l < 256 ^ l.length := by
  have h := num_beN l.length (num l)
  rw [beN_num _ l rfl] at h
  rw [h]
  exact Nat.mod_lt _ (Nat.pow_pos (by decide))
/-- A number as a key has it. -/
def offI (a : Int) : Nat := (a + 9223372036854775808).toNat
def backI (n : Nat) : Int := (n : Int) - 9223372036854775808
def inI (a : Int) : Prop := -9223372036854775808 ≤ a ∧ a ≤ 9223372036854775807
theorem off_lt {a : Int} (h : inI a) : offI a < 256 ^ 8 := by unfold offI inI at *; omega
theorem back_off {a : Int} (h : inI a) : backI (offI a) = a := by unfold backI offI inI at *; omega
/-- A text as a key has it: a 0 is followed by 255. -/
def esc : List UInt8 → List UInt8
  | [] => []
  | c :: r => if c = 0 then 0 :: 255 :: esc r else c :: esc r
theorem esc_len : ∀ l : List UInt8, l.length ≤ (esc l).length
  | [] => Nat.le_refl _
  | c :: r => by
    rw [esc]
    have := esc_len r
    split <;> simp <;> omega
/-- The text with which bytes begin, and what is behind it. -/
def unesc : List UInt8 → Option (List UInt8 × List UInt8)
  | [] => none
  | c :: r => if c = 0 then (match r with
      | [] => none
      | d :: s => if d = 1 then some ([], s) else if d = 255 then (unesc s).map (fun p => (0 :: p.1, p.2)) else none)
    else (unesc r).map (fun p => (c :: p.1, p.2))
theorem unesc_zero (d : UInt8) (s : List UInt8) : unesc (0 :: d :: s) = if d = 1 then some ([], s) else if d = 255 then (unesc s).map (fun p => (0 :: p.1, p.2)) else none := by
  rw [unesc.eq_def]; rfl
theorem unesc_other {c : UInt8} (h : ¬ c = 0) (r : List UInt8) : unesc (c :: r) = (unesc r).map (fun p => (c :: p.1, p.2)) := by
  rw [unesc.eq_def]; exact if_neg h
theorem unesc_esc : ∀ (t r : List UInt8), unesc (esc t ++ 0 :: 1 :: r) = some (t, r)
  | [], r => by simp [esc, unesc]
  | c :: t, r => by
    by_cases h : c = 0
    · subst h
      rw [esc, if_pos rfl, List.cons_append, List.cons_append, unesc_zero, if_neg (by decide), if_pos rfl, unesc_esc t r]; rfl
    · rw [esc, if_neg h, List.cons_append, unesc_other h, unesc_esc t r]; rfl
theorem esc_unesc : ∀ (n : Nat) (s t r : List UInt8), s.length ≤ n → unesc s = some (t, r) → s = esc t ++ 0 :: 1 :: r
  | 0, s, t, r, hn, h => by
    have : s = [] := List.eq_nil_of_length_eq_zero (by omega)
    subst this; simp [unesc] at h
  | n + 1, [], t, r, _, h => by simp [unesc] at h
  | n + 1, c :: s, t, r, hn, h => by
    by_cases hc : c = 0
    · subst hc
      match s, h with
      | [], h => exact absurd h (by rw [unesc.eq_def]; simp)
      | d :: u, h =>
        rw [unesc_zero] at h
        split at h
        · rename_i hd
          subst hd
          simp only [Option.some.injEq, Prod.mk.injEq] at h
          obtain ⟨rfl, rfl⟩ := h
          rfl
        · split at h
          · rename_i hd
            subst hd
            obtain ⟨p, hp, he⟩ := Option.map_eq_some_iff.1 h
            simp only [Prod.mk.injEq] at he
            obtain ⟨rfl, rfl⟩ := he
            rw [esc, if_pos rfl, List.cons_append, List.cons_append, ← esc_unesc n u p.1 p.2 (by simp at hn; omega) hp]
          · simp at h
    · rw [unesc_other hc] at h
      obtain ⟨p, hp, he⟩ := Option.map_eq_some_iff.1 h
      simp only [Prod.mk.injEq] at he
      obtain ⟨rfl, rfl⟩ := he
      rw [esc, if_neg hc, List.cons_append, ← esc_unesc n s p.1 p.2 (by simp at hn; omega) hp]
/-- The bytes of a part. -/
def part (p : Part) : List UInt8 := if p.kind = 1 then 1 :: beN 8 (offI p.int) else 2 :: (esc p.text ++ [0, 1])
def may (p : Part) : Prop := (p.kind = 1 ∧ p.text = []) ∨ (p.kind = 2 ∧ p.int = 0)
instance (p : Part) : Decidable (may p) := inferInstanceAs (Decidable (_ ∨ _))
def keyL (l : List Part) : List UInt8 := l.flatMap part
def makeE (l : List Part) : Nat := if 8 < l.length then 4 else if ¬ ∀ p ∈ l, may p then 8 else if 256 < (keyL l).length then 60 else 0
def makeS (l : List Part) : List UInt8 := if makeE l = 0 then keyL l else []
/-- The part with which a key begins, and what is behind it. -/
def oneP (s : List UInt8) : Option (Part × List UInt8) := match s with
  | [] => none
  | c :: r => if c = 1 ∧ 8 ≤ r.length then some (⟨1, backI (num (r.take 8)), []⟩, r.drop 8) else if c = 2 then (unesc r).map (fun p => (⟨2, 0, p.1⟩, p.2)) else none
def cutO : Nat → List UInt8 → Option (List Part)
  | _, [] => some []
  | 0, _ :: _ => none
  | n + 1, c :: r => match oneP (c :: r) with
    | none => none
    | some (p, s) => (cutO n s).map (p :: ·)
def cutE (s : List UInt8) : Nat := if 256 < s.length then 60 else if (cutO 8 s).isSome then 0 else 60
def cutL (s : List UInt8) : List Part := if cutE s = 0 then (cutO 8 s).getD [] else []
theorem part_cons (p : Part) : ∃ c r, part p = c :: r := by
  unfold part
  split
  · exact ⟨_, _, rfl⟩
  · exact ⟨_, _, rfl⟩
theorem one_part {p : Part} (h : may p) (hi : inI p.int) (r : List UInt8) : oneP (part p ++ r) = some (p, r) := by
  obtain ⟨k, a, t⟩ := p
  rcases h with ⟨h1, h2⟩ | ⟨h1, h2⟩
  · simp only at h1 h2 hi
    subst h1; subst h2
    have hl := beN_len 8 (offI a)
    rw [show part ⟨1, a, []⟩ = 1 :: beN 8 (offI a) from rfl, List.cons_append, oneP, if_pos ⟨rfl, by rw [List.length_append, hl]; omega⟩, List.take_append_of_le_length (by omega), List.take_of_length_le (by omega), List.drop_append_of_le_length (by omega), List.drop_of_length_le (by omega), num_beN, Nat.mod_eq_of_lt (off_lt hi), back_off hi]
    rfl
  · simp only at h1 h2
    subst h1; subst h2
    rw [show part ⟨2, 0, t⟩ = 2 :: (esc t ++ [0, 1]) from rfl, List.cons_append, oneP, if_neg (by simp), if_pos rfl, List.append_assoc]
    show Option.map _ (unesc (esc t ++ 0 :: 1 :: r)) = _
    rw [unesc_esc]; rfl
theorem cut_key : ∀ (n : Nat) (l : List Part), l.length ≤ n → (∀ p ∈ l, may p ∧ inI p.int) → cutO n (keyL l) = some l
  | n, [], _, _ => by cases n <;> rfl
  | 0, p :: l, h, _ => by simp at h
  | n + 1, p :: l, h, hm => by
    obtain ⟨h1, h2⟩ := hm p (by simp)
    obtain ⟨c, r, hc⟩ := part_cons p
    have e : keyL (p :: l) = part p ++ keyL l := rfl
    have ho := one_part h1 h2 (keyL l)
    rw [e]
    rw [hc, List.cons_append] at ho ⊢
    rw [cutO, ho]
    show Option.map _ (cutO n (keyL l)) = _
    rw [cut_key n l (by simpa using h) (fun q hq => hm q (by simp [hq]))]; rfl
theorem off_back {n : Nat} (h : n < 256 ^ 8) : offI (backI n) = n ∧ inI (backI n) := by
  unfold offI backI inI
  have : (256 : Nat) ^ 8 = 18446744073709551616 := rfl
  omega
/-- What is cut off is a part as it may be, and its bytes stood there. -/
theorem part_one {s r : List UInt8} {p : Part} (h : oneP s = some (p, r)) : s = part p ++ r ∧ may p ∧ inI p.int := by
  cases s with
  | nil => simp [oneP] at h
  | cons c s =>
    rw [oneP] at h
    by_cases h1 : c = 1 ∧ 8 ≤ s.length
    · rw [if_pos h1] at h
      simp only [Option.some.injEq, Prod.mk.injEq] at h
      obtain ⟨rfl, rfl⟩ := h
      have hl : (s.take 8).length = 8 := by rw [List.length_take]; omega
      have hn := num_lt (s.take 8)
      rw [hl] at hn
      obtain ⟨h2, h3⟩ := off_back hn
      refine ⟨?_, .inl ⟨rfl, rfl⟩, h3⟩
      rw [show part ⟨1, backI (num (s.take 8)), []⟩ = 1 :: beN 8 (offI (backI (num (s.take 8)))) from rfl, h2, beN_num 8 _ hl, h1.1, List.cons_append, List.take_append_drop]
    · rw [if_neg h1] at h
      by_cases h2 : c = 2
      · rw [if_pos h2] at h
        obtain ⟨q, hq, he⟩ := Option.map_eq_some_iff.1 h
        simp only [Prod.mk.injEq] at he
        obtain ⟨rfl, rfl⟩ := he
        refine ⟨?_, .inr ⟨rfl, rfl⟩, by show inI 0; unfold inI; decide⟩
        rw [show part ⟨2, 0, q.1⟩ = 2 :: (esc q.1 ++ [0, 1]) from rfl, h2, List.cons_append, List.append_assoc]
        exact congrArg _ (esc_unesc _ s q.1 q.2 (Nat.le_refl _) hq)
      · rw [if_neg h2] at h; simp at h
theorem key_cut : ∀ (n : Nat) (s : List UInt8) (l : List Part), cutO n s = some l → s = keyL l ∧ l.length ≤ n ∧ ∀ p ∈ l, may p ∧ inI p.int
  | n, [], l, h => by
    have : l = [] := by cases n <;> simpa [cutO] using h.symm
    subst this
    exact ⟨rfl, by simp, by simp⟩
  | 0, c :: r, l, h => by simp [cutO] at h
  | n + 1, c :: r, l, h => by
    rw [cutO] at h
    split at h
    · simp at h
    · rename_i p s hp
      obtain ⟨m, hm, rfl⟩ := Option.map_eq_some_iff.1 h
      obtain ⟨h1, h2, h3⟩ := part_one hp
      obtain ⟨h4, h5, h6⟩ := key_cut n s m hm
      refine ⟨by rw [h1, h4]; rfl, by simp; omega, fun q hq => ?_⟩
      rcases List.mem_cons.1 hq with e | e
      · rw [e]; exact ⟨h2, h3⟩
      · exact h6 q e
end Go.Key
