/-
  Small numbers read, texts cut, in plain Lean. No program in sight.
-/
import Derived.Test.YtkgckmdhlokjmaaDoorNum
namespace Go.Bits

/-- Reading goes on at byte 'i' with 'n' so far. -/
def rdF : Nat → Nat → List UInt8 → Option (Nat × Nat)
  | _, _, [] => none
  | i, n, x :: r =>
    if i = 9 ∧ 1 < x.toNat then none
    else if x.toNat < 128 then (if x.toNat = 0 ∧ 0 < i then none else some (n + x.toNat * 2 ^ (7 * i), i + 1))
    else rdF (i + 1) (n + (x.toNat % 128) * 2 ^ (7 * i)) r
def read (l : List UInt8) : Option (Nat × Nat) := rdF 0 0 l

theorem toNat_small (m : Nat) (h : m < 256) : (UInt8.ofNat m).toNat = m := by rw [UInt8.toNat_ofNat']; omega

theorem pow7 (i : Nat) : 2 ^ (7 * (i + 1)) = 128 * 2 ^ (7 * i) := by
  rw [Nat.mul_add, Nat.pow_add, Nat.mul_comm]

/-- What is written is read back, whatever stands behind. -/
theorem rdF_small (rest : List UInt8) : ∀ (m i n : Nat), i ≤ 9 → (0 < i → 0 < m) → m * 2 ^ (7 * i) < 2 ^ 64 → rdF i n (small m ++ rest) = some (n + m * 2 ^ (7 * i), i + (small m).length) := by
  intro m
  induction m using Nat.strongRecOn with
  | _ m ih =>
    intro i n hi hpos hlt
    have h9 : i = 9 → m ≤ 1 := by
      intro e; subst e
      have : m * 9223372036854775808 < 18446744073709551616 := hlt
      omega
    by_cases h : m < 128
    · rw [small_lt h]
      simp only [List.cons_append, List.nil_append, rdF, toNat_small m (by omega), List.length_singleton]
      rw [if_neg (by omega), if_pos h, if_neg (by omega)]
    · have hi9 : i ≠ 9 := by intro e; have := h9 e; omega
      rw [small_ge h]
      simp only [List.cons_append, rdF, toNat_small (m % 128 + 128) (by omega), List.length_cons]
      rw [if_neg (by omega), if_neg (by omega)]
      have e0 : m / 128 * (128 * 2 ^ (7 * i)) ≤ m * 2 ^ (7 * i) := by
        rw [← Nat.mul_assoc]; exact Nat.mul_le_mul_right _ (Nat.div_mul_le_self m 128)
      rw [ih (m / 128) (by omega) (i + 1) _ (by omega) (by omega) (by rw [pow7]; omega)]
      have e1 : (m % 128 + 128) % 128 = m % 128 := by omega
      have e2 : m * 2 ^ (7 * i) = (m % 128) * 2 ^ (7 * i) + m / 128 * (128 * 2 ^ (7 * i)) := by
        rw [← Nat.mul_assoc, ← Nat.add_mul]; congr 1; omega
      rw [pow7, e1, e2, Nat.add_assoc]
      congr 2; omega
theorem read_small (n : Nat) (h : n < 2 ^ 64) (rest : List UInt8) : read (small n ++ rest) = some (n, (small n).length) := by
  have := rdF_small rest n 0 0 (by omega) (by omega) (by simpa using h)
  simpa [read] using this

/-- What is read is just what is written. -/
theorem rdF_only : ∀ (l : List UInt8) (i n m k : Nat), i ≤ 9 → n < 2 ^ (7 * i) → rdF i n l = some (m, k) →
    ∃ q, m = n + q * 2 ^ (7 * i) ∧ m < 2 ^ 64 ∧ (0 < i → 0 < q) ∧ i < k ∧ k - i ≤ l.length ∧ small q = l.take (k - i)
  | [], _, _, _, _, _, _, h => by simp [rdF] at h
  | x :: r, i, n, m, k, hi, hn, h => by
    have hx := UInt8.toNat_lt x
    simp only [rdF] at h
    split at h
    · cases h
    · rename_i h1
      split at h
      · rename_i h2
        split at h
        · cases h
        · rename_i h3
          cases h
          refine ⟨x.toNat, rfl, ?_, by omega, by omega, by simp, ?_⟩
          · by_cases h9 : i = 9
            · subst h9
              have : n < 9223372036854775808 := hn
              show n + x.toNat * 9223372036854775808 < 18446744073709551616
              omega
            · have e1 : x.toNat * 2 ^ (7 * i) ≤ 127 * 2 ^ (7 * i) := Nat.mul_le_mul_right _ (by omega)
              have e2 : 2 ^ (7 * i) ≤ 2 ^ (7 * 8) := Nat.pow_le_pow_right (by omega) (by omega)
              have e3 : (2 : Nat) ^ (7 * 8) = 72057594037927936 := rfl
              omega
          · rw [small_lt (by omega), show i + 1 - i = 1 by omega]
            simp
      · rename_i h2
        have h9 : i ≠ 9 := by omega
        have hn' : n + x.toNat % 128 * 2 ^ (7 * i) < 2 ^ (7 * (i + 1)) := by
          rw [pow7]
          have e1 : x.toNat % 128 * 2 ^ (7 * i) ≤ 127 * 2 ^ (7 * i) := Nat.mul_le_mul_right _ (by omega)
          omega
        obtain ⟨q, g1, g2, g3, g4, g5, g6⟩ := rdF_only r (i + 1) _ m k (by omega) hn' h
        have hq := g3 (by omega)
        refine ⟨x.toNat % 128 + 128 * q, ?_, g2, by omega, by omega, by simp; omega, ?_⟩
        · rw [g1, pow7, Nat.add_mul, Nat.add_assoc]
          congr 2
          rw [← Nat.mul_assoc, Nat.mul_comm q]
        · rw [small_ge (by omega), show (x.toNat % 128 + 128 * q) / 128 = q by omega, g6, show (x.toNat % 128 + 128 * q) % 128 + 128 = x.toNat by omega]
          rw [show k - i = (k - (i + 1)) + 1 by omega, List.take_succ_cons]
          congr 1
          apply UInt8.toNat.inj
          rw [UInt8.toNat_ofNat']; omega
theorem read_only {l : List UInt8} {m k : Nat} (h : read l = some (m, k)) : m < 2 ^ 64 ∧ 0 < k ∧ k ≤ l.length ∧ small m = l.take k := by
  obtain ⟨q, g1, g2, _, g4, g5, g6⟩ := rdF_only l 0 0 m k (by omega) (by simp) h
  simp only [Nat.zero_add, Nat.mul_zero, Nat.pow_zero, Nat.mul_one, Nat.sub_zero] at g1 g4 g5 g6
  subst g1
  exact ⟨g2, g4, g5, g6⟩

/-! ## The document's own way to read -/
def leadF : Nat → List UInt8 → Nat
  | 0, _ => 0
  | _ + 1, [] => 0
  | f + 1, x :: r => if 128 ≤ x.toNat then leadF f r + 1 else 0
def lead (l : List UInt8) : Nat := leadF 10 l
theorem leadF_step {f k : Nat} {l : List UInt8} (hk : k < l.length) (h : 128 ≤ (l.getD k 0).toNat) : leadF (f + 1) (l.drop k) = leadF f (l.drop (k + 1)) + 1 := by
  rw [List.drop_eq_getElem_cons hk, leadF]
  rw [List.getD_eq_getElem?_getD, List.getElem?_eq_getElem hk, Option.getD_some] at h
  rw [if_pos h]
theorem leadF_stop {f k : Nat} {l : List UInt8} (h : l.length ≤ k ∨ f = 0 ∨ (l.getD k 0).toNat < 128) : leadF f (l.drop k) = 0 := by
  rcases Nat.lt_or_ge k l.length with hk | hk
  · cases f with
    | zero => rfl
    | succ f =>
      rw [List.drop_eq_getElem_cons hk, leadF]
      rw [List.getD_eq_getElem?_getD, List.getElem?_eq_getElem hk, Option.getD_some] at h
      have h' : l[k].toNat < 128 := by rcases h with h | h | h <;> first | omega | exact h
      rw [if_neg (by omega)]
  · rw [List.drop_eq_nil_of_le hk]; cases f <;> rfl
/-- Seven bits each, the least first. -/
def hv : List UInt8 → Nat
  | [] => 0
  | x :: r => x.toNat % 128 + 128 * hv r
def bad (i : Nat) (l : List UInt8) (k : Nat) : Prop := l.length ≤ k ∨ 10 ≤ i + k ∨ (i + k = 9 ∧ 1 < (l.getD k 0).toNat) ∨ (0 < i + k ∧ (l.getD k 0).toNat = 0)
theorem rdF_ref : ∀ (l : List UInt8) (i n : Nat), i ≤ 9 →
    (bad i l (leadF (10 - i) l) → rdF i n l = none) ∧ (¬ bad i l (leadF (10 - i) l) → rdF i n l = some (n + hv (l.take (leadF (10 - i) l + 1)) * 2 ^ (7 * i), i + leadF (10 - i) l + 1))
  | [], i, n, hi => by
    have e : leadF (10 - i) [] = 0 := by cases 10 - i <;> rfl
    rw [e]
    exact ⟨fun _ => rfl, fun h => (h (.inl (by simp))).elim⟩
  | x :: r, i, n, hi => by
    obtain ⟨f, hf⟩ : ∃ f, 10 - i = f + 1 := ⟨9 - i, by omega⟩
    rw [hf]
    simp only [leadF]
    by_cases h1 : 128 ≤ x.toNat
    · rw [if_pos h1]
      by_cases h9 : i = 9
      · have e : rdF i n (x :: r) = none := by simp only [rdF]; rw [if_pos ⟨h9, by omega⟩]
        rw [e]
        exact ⟨fun _ => rfl, fun h => (h (.inr (.inl (by omega)))).elim⟩
      · have e : rdF i n (x :: r) = rdF (i + 1) (n + x.toNat % 128 * 2 ^ (7 * i)) r := by
          simp only [rdF]; rw [if_neg (by omega), if_neg (by omega)]
        obtain ⟨g1, g2⟩ := rdF_ref r (i + 1) (n + x.toNat % 128 * 2 ^ (7 * i)) (by omega)
        rw [show 10 - (i + 1) = f by omega] at g1 g2
        have hb : bad i (x :: r) (leadF f r + 1) ↔ bad (i + 1) r (leadF f r) := by
          unfold bad
          simp only [List.length_cons, List.getD_cons_succ]
          rw [show i + (leadF f r + 1) = i + 1 + leadF f r by omega]
          constructor <;> (intro h; rcases h with h | h | h | h <;> omega)
        rw [e, hb]
        refine ⟨g1, fun h => ?_⟩
        rw [g2 h, List.take_succ_cons, hv, pow7]
        congr 2
        · rw [Nat.add_mul, Nat.add_assoc]
          congr 2
          rw [← Nat.mul_assoc, Nat.mul_comm (hv _)]
        · omega
    · rw [if_neg h1]
      have hb : bad i (x :: r) 0 ↔ (i = 9 ∧ 1 < x.toNat) ∨ (0 < i ∧ x.toNat = 0) := by
        unfold bad
        simp only [List.length_cons, List.getD_cons_zero]
        constructor <;> (intro h; rcases h with h | h | h | h <;> omega)
      rw [hb]
      simp only [rdF]
      constructor
      · intro h
        by_cases hc : i = 9 ∧ 1 < x.toNat
        · rw [if_pos hc]
        · rw [if_neg hc, if_pos (by omega), if_pos (by omega)]
      · intro h
        rw [if_neg (by omega), if_pos (by omega), if_neg (by omega)]
        simp only [Nat.zero_add, List.take_succ_cons, List.take_zero, hv, Nat.mul_zero, Nat.add_zero]
        rw [Nat.mod_eq_of_lt (by omega)]
theorem read_ref (l : List UInt8) : (bad 0 l (lead l) → read l = none) ∧ (¬ bad 0 l (lead l) → read l = some (hv (l.take (lead l + 1)), lead l + 1)) := by
  have := rdF_ref l 0 0 (by omega)
  simpa [read, lead] using this
theorem hv_step (a b : Nat) : UInt64.ofNat a * 128 + UInt64.ofNat b = UInt64.ofNat (b + 128 * a) := by
  apply UInt64.toNat.inj
  rw [UInt64.toNat_add, UInt64.toNat_mul, UInt64.toNat_ofNat', UInt64.toNat_ofNat', UInt64.toNat_ofNat']
  have : (128 : UInt64).toNat = 128 := rfl
  rw [this]; omega
theorem le_step (a b : Nat) : UInt64.ofNat a * 256 + UInt64.ofNat b = UInt64.ofNat (b + 256 * a) := by
  apply UInt64.toNat.inj
  rw [UInt64.toNat_add, UInt64.toNat_mul, UInt64.toNat_ofNat', UInt64.toNat_ofNat', UInt64.toNat_ofNat']
  have : (256 : UInt64).toNat = 256 := rfl
  rw [this]; omega

/-! ## The step of the shift and the or -/
theorem or_step {n i x : Nat} (hn : n < 2 ^ (7 * i)) (hi : i ≤ 9) (hx : x < 128) (h9 : i = 9 → x ≤ 1) :
    (UInt64.ofNat n ||| UInt64.ofNat (x * 2 ^ (7 * i))) = UInt64.ofNat (n + x * 2 ^ (7 * i)) ∧ n + x * 2 ^ (7 * i) < 2 ^ 64 := by
  have hlt : n + x * 2 ^ (7 * i) < 2 ^ 64 := by
    by_cases h : i = 9
    · subst h
      have := h9 rfl
      have : n < 9223372036854775808 := hn
      show n + x * 9223372036854775808 < 18446744073709551616
      omega
    · have e1 : x * 2 ^ (7 * i) ≤ 127 * 2 ^ (7 * i) := Nat.mul_le_mul_right _ (by omega)
      have e2 : 2 ^ (7 * i) ≤ 2 ^ (7 * 8) := Nat.pow_le_pow_right (by omega) (by omega)
      have e3 : (2 : Nat) ^ (7 * 8) = 72057594037927936 := rfl
      omega
  refine ⟨?_, hlt⟩
  apply UInt64.toNat.inj
  have hor : n + x * 2 ^ (7 * i) = n ||| x * 2 ^ (7 * i) := by
    rw [Nat.or_comm, Nat.mul_comm x, ← Nat.two_pow_add_eq_or_of_lt hn x, Nat.add_comm]
  rw [UInt64.toNat_or, UInt64.toNat_ofNat', UInt64.toNat_ofNat', UInt64.toNat_ofNat', Nat.mod_eq_of_lt (by omega), Nat.mod_eq_of_lt (by omega), Nat.mod_eq_of_lt hlt, hor]

/-! ## Numbers in eight bytes -/
/-- Bytes as a number, the least first. -/
def le : List UInt8 → Nat
  | [] => 0
  | x :: r => x.toNat + 256 * le r
theorem le_lt : ∀ l : List UInt8, le l < 256 ^ l.length
  | [] => by simp [le]
  | x :: r => by
    have := le_lt r
    have := UInt8.toNat_lt x
    simp only [le, List.length_cons, Nat.pow_succ]; omega
theorem le_snoc : ∀ (l : List UInt8) (x : UInt8), le (l ++ [x]) = le l + x.toNat * 256 ^ l.length
  | [], x => by simp [le]
  | y :: r, x => by
    simp only [List.cons_append, le, le_snoc r x, List.length_cons, Nat.pow_succ, Nat.mul_add]
    rw [Nat.add_assoc]
    congr 2
    rw [← Nat.mul_assoc, Nat.mul_comm 256, Nat.mul_assoc, Nat.mul_comm 256]
theorem pb_toNat (n : UInt64) (j : Nat) : (pb n j).toNat = n.toNat / 256 ^ j % 256 := by
  have := UInt64.toNat_lt n
  have hle : n.toNat / 2 ^ (8 * j) ≤ n.toNat := Nat.div_le_self _ _
  rw [pb, UInt8.toNat_ofNat', UInt64.toNat_ofNat', Nat.mod_eq_of_lt (show n.toNat / 2 ^ (8 * j) < 2 ^ 64 by omega), Nat.pow_mul]
theorem le_put (n : UInt64) : le (put n) = n.toNat := by
  have key : ∀ k, k ≤ 8 → le ((List.range k).map (pb n)) = n.toNat % 256 ^ k := by
    intro k
    induction k with
    | zero => intro _; simp [le, Nat.mod_one]
    | succ k ih =>
      intro hk
      rw [List.range_succ, List.map_append, List.map_singleton, le_snoc, ih (by omega), pb_toNat, List.length_map, List.length_range]
      rw [Nat.pow_succ, Nat.mod_mul, Nat.mul_comm (256 ^ k)]
  have := UInt64.toNat_lt n
  rw [put, key 8 (Nat.le_refl _), Nat.mod_eq_of_lt (by simpa using this)]
theorem get_step {n k x : Nat} (hn : n < 256 ^ k) (hk : k < 8) (hx : x < 256) :
    (UInt64.ofNat n ||| UInt64.ofNat (x * 2 ^ (8 * k))) = UInt64.ofNat (n + x * 256 ^ k) ∧ n + x * 256 ^ k < 256 ^ (k + 1) := by
  have e0 : (2 : Nat) ^ (8 * k) = 256 ^ k := by rw [Nat.pow_mul]
  have hlt : n + x * 256 ^ k < 256 ^ (k + 1) := by
    rw [Nat.pow_succ]
    have : x * 256 ^ k ≤ 255 * 256 ^ k := Nat.mul_le_mul_right _ (by omega)
    omega
  have h64 : 256 ^ (k + 1) ≤ 2 ^ 64 := by
    have : (256 : Nat) ^ (k + 1) ≤ 256 ^ 8 := Nat.pow_le_pow_right (by omega) (by omega)
    simpa using this
  refine ⟨?_, hlt⟩
  apply UInt64.toNat.inj
  have hor : n + x * 256 ^ k = n ||| x * 256 ^ k := by
    rw [Nat.or_comm, Nat.mul_comm x, ← e0, ← Nat.two_pow_add_eq_or_of_lt (by rw [e0]; exact hn) x, Nat.add_comm]
  rw [e0, UInt64.toNat_or, UInt64.toNat_ofNat', UInt64.toNat_ofNat', UInt64.toNat_ofNat', Nat.mod_eq_of_lt (by omega), Nat.mod_eq_of_lt (by omega), Nat.mod_eq_of_lt (by omega), hor]

/-! ## Texts -/
/-- One list behind a first byte. -/
theorem le_cons (x : UInt8) (r : List UInt8) : le (x :: r) = x.toNat + 256 * le r := rfl
def text (s : List UInt8) : List UInt8 := small s.length ++ s
def cut (l : List UInt8) : Option (List UInt8 × List UInt8) :=
  match read l with
  | none => none
  | some (n, k) => if l.length - k < n then none else some ((l.drop k).take n, (l.drop k).drop n)
theorem cut_text (s rest : List UInt8) (h : s.length < 2 ^ 64) : cut (text s ++ rest) = some (s, rest) := by
  rw [text, List.append_assoc, cut, read_small _ h]
  simp only
  rw [if_neg (by simp), List.drop_left]
  simp
theorem cut_only {l s rest : List UInt8} (h : cut l = some (s, rest)) : text s ++ rest = l := by
  unfold cut at h
  split at h
  · cases h
  · rename_i n k hr
    obtain ⟨h1, h2, h3, h4⟩ := read_only hr
    split at h
    · cases h
    · rename_i h5
      cases h
      have hl : ((l.drop k).take n).length = n := by simp; omega
      rw [text, hl, h4, List.append_assoc, List.take_append_drop, List.take_append_drop]
/-! ## Small steps of the walks -/
theorem drop_getD {l : List UInt8} {k : Nat} (h : k < l.length) : l.drop k = l.getD k 0 :: l.drop (k + 1) := by
  rw [List.drop_eq_getElem_cons h, List.getD_eq_getElem?_getD, List.getElem?_eq_getElem h, Option.getD_some]
theorem and127' : ∀ j : Fin 256, (UInt8.ofNat j.val &&& 127).toNat = j.val % 128 := by decide +kernel
theorem and127 (x : UInt8) : (x &&& 127).toNat = x.toNat % 128 := by
  have h := and127' ⟨x.toNat, UInt8.toNat_lt x⟩
  simpa using h
theorem shl7 (x : UInt8) (k : Nat) : UInt64.ofNat ((UInt64.ofNat (x &&& 127).toNat).toNat * 2 ^ (7 * (k : Int)).toNat) = UInt64.ofNat (x.toNat % 128 * 2 ^ (7 * k)) := by
  have := UInt8.toNat_lt x
  rw [and127, UInt64.toNat_ofNat', Nat.mod_eq_of_lt (a := x.toNat % 128) (by omega), show (7 * (k : Int)).toNat = 7 * k by omega]
theorem shl8 (x : UInt8) (k : Nat) : UInt64.ofNat ((UInt64.ofNat x.toNat).toNat * 2 ^ (8 * (k : Int)).toNat) = UInt64.ofNat (x.toNat * 2 ^ (8 * k)) := by
  have := UInt8.toNat_lt x
  rw [UInt64.toNat_ofNat', Nat.mod_eq_of_lt (a := x.toNat) (by omega), show (8 * (k : Int)).toNat = 8 * k by omega]
instance (i : Nat) (l : List UInt8) (k : Nat) : Decidable (bad i l k) := by unfold bad; infer_instance
def rdN : Option (Nat × Nat) → Nat | none => 0 | some p => p.1
def rdK : Option (Nat × Nat) → Nat | none => 0 | some p => p.2
def rdE : Option (Nat × Nat) → Nat | none => 8 | some _ => 0
theorem hv_at {l : List UInt8} {k j : Nat} (h : j ≤ k) (hk : k < l.length) : hv ((l.take (k + 1)).drop j) = (l.getD j 0).toNat % 128 + 128 * hv ((l.take (k + 1)).drop (j + 1)) := by
  rw [drop_getD (by simp; omega), hv]
  simp only [List.getD_eq_getElem?_getD, List.getElem?_take]
  rw [if_pos (by omega)]
theorem hv_end (l : List UInt8) (k : Nat) : hv ((l.take k).drop k) = 0 := by
  rw [List.drop_eq_nil_of_le (by simp; omega)]; rfl
theorem le_at {l : List UInt8} {j : Nat} (h : j < l.length) : le (l.drop j) = (l.getD j 0).toNat + 256 * le (l.drop (j + 1)) := by
  rw [drop_getD h, le]
theorem le_take {l : List UInt8} {k : Nat} (h : k < l.length) : le (l.take (k + 1)) = le (l.take k) + (l.getD k 0).toNat * 256 ^ k := by
  have e : l.take (k + 1) = l.take k ++ [l.getD k 0] := by
    rw [List.take_add_one, List.getD_eq_getElem?_getD, List.getElem?_eq_getElem h]; rfl
  rw [e, le_snoc, List.length_take, Nat.min_eq_left (by omega)]
theorem pb_rem {n x : UInt64} {k : Nat} (h : x.toNat = n.toNat / 256 ^ k) : UInt8.ofNat (x % 256).toNat = pb n k := by
  apply UInt8.toNat.inj
  rw [pb_toNat, UInt8.toNat_ofNat', UInt64.toNat_mod, h]
  show n.toNat / 256 ^ k % 256 % 256 = _
  omega
theorem small_rem (x : UInt64) : UInt8.ofNat (x % 128).toNat + 128 = UInt8.ofNat (x.toNat % 128 + 128) := by
  apply UInt8.toNat.inj
  rw [UInt8.toNat_add, UInt8.toNat_ofNat', UInt8.toNat_ofNat', UInt64.toNat_mod]
  show (x.toNat % 128 % 256 + 128) % 256 = _
  omega
def getN (l : List UInt8) : Nat := if l.length = 8 then le l else 0
def getE (l : List UInt8) : Nat := if l.length = 8 then 0 else 8

theorem rdK_le (l : List UInt8) : rdK (read l) ≤ l.length := by
  cases h : read l with
  | none => simp [rdK]
  | some p => exact (read_only h).2.2.1
theorem rdN_lt (l : List UInt8) : rdN (read l) < 18446744073709551616 := by
  cases h : read l with
  | none => simp [rdN]
  | some p => exact (read_only h).1
theorem cut_none {l : List UInt8} (h : rdE (read l) ≠ 0 ∨ l.length - rdK (read l) < rdN (read l)) : cut l = none := by
  unfold cut
  cases hr : read l with
  | none => rfl
  | some p =>
    rw [hr] at h
    simp only [rdE, rdK, rdN] at h
    simp only
    rw [if_pos (by omega)]
theorem cut_some {l : List UInt8} (h : ¬ (rdE (read l) ≠ 0 ∨ l.length - rdK (read l) < rdN (read l))) : cut l = some ((l.drop (rdK (read l))).take (rdN (read l)), (l.drop (rdK (read l))).drop (rdN (read l))) := by
  unfold cut
  cases hr : read l with
  | none => rw [hr] at h; simp [rdE] at h
  | some p =>
    rw [hr] at h
    simp only [rdE, rdK, rdN] at h
    simp only
    rw [if_neg (by omega)]; rfl
def cutS (l : List UInt8) : List UInt8 := match cut l with | none => [] | some p => p.1
def cutR (l : List UInt8) : List UInt8 := match cut l with | none => [] | some p => p.2
def cutE (l : List UInt8) : Nat := match cut l with | none => 8 | some _ => 0

theorem read_facts (l : List UInt8) : (rdE (read l) = 0 ∧ 1 ≤ rdK (read l) ∧ small (rdN (read l)) = l.take (rdK (read l))) ∨ (rdE (read l) = 8 ∧ rdN (read l) = 0 ∧ rdK (read l) = 0) := by
  cases h : read l with
  | none => right; simp [rdE, rdN, rdK]
  | some p => left; have := read_only h; exact ⟨rfl, this.2.1, this.2.2.2⟩
theorem cut_facts (l : List UInt8) : (cutE l = 0 ∧ text (cutS l) ++ cutR l = l) ∨ (cutE l = 8 ∧ cutS l = [] ∧ cutR l = []) := by
  unfold cutE cutS cutR
  cases h : cut l with
  | none => right; simp
  | some p => left; exact ⟨rfl, cut_only h⟩
theorem getN_put (n : UInt64) : UInt64.ofNat (getN (put n)) = n := by
  rw [getN, if_pos (put_len n), le_put]; simp
theorem getE_put (n : UInt64) : getE (put n) = 0 := by rw [getE, if_pos (put_len n)]
end Go.Bits
