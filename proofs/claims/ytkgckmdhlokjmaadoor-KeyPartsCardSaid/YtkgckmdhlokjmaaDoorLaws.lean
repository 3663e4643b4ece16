/-
  The order of keys, and what is behind them: in plain Lean. No program in sight.
-/
import Derived.Test.YtkgckmdhlokjmaaDoorParts
namespace Go.Key
open Go.Op (bytesLess)
theorem bl_nil (l : List UInt8) : bytesLess l [] = false := by cases l <;> rfl
theorem bl_cons (a b : UInt8) (r s : List UInt8) : bytesLess (a :: r) (b :: s) = (decide (a < b) || (a == b && bytesLess r s)) := rfl
theorem bl_lt {a b : UInt8} (h : a.toNat < b.toNat) (r s : List UInt8) : bytesLess (a :: r) (b :: s) = true := by
  rw [bl_cons, decide_eq_true (show a < b from UInt8.lt_iff_toNat_lt.2 h)]; rfl
theorem bl_gt {a b : UInt8} (h : b.toNat < a.toNat) (r s : List UInt8) : bytesLess (a :: r) (b :: s) = false := by
  have e : ¬ a = b := by rintro rfl; omega
  rw [bl_cons, decide_eq_false (show ¬ a < b from fun x => by have := UInt8.lt_iff_toNat_lt.1 x; omega), beq_eq_false_iff_ne.2 e]; rfl
theorem bl_eq (a : UInt8) (r s : List UInt8) : bytesLess (a :: r) (a :: s) = bytesLess r s := by
  rw [bl_cons, decide_eq_false (show ¬ a < a from fun x => by have := UInt8.lt_iff_toNat_lt.1 x; omega)]; simp
theorem bl_same : ∀ (p r s : List UInt8), bytesLess (p ++ r) (p ++ s) = bytesLess r s
  | [], _, _ => rfl
  | a :: p, r, s => by rw [List.cons_append, List.cons_append, bl_eq]; exact bl_same p r s
theorem tri (a b : UInt8) : a.toNat < b.toNat ∨ a = b ∨ b.toNat < a.toNat := by
  rcases Nat.lt_trichotomy a.toNat b.toNat with h | h | h
  · exact .inl h
  · exact .inr (.inl (UInt8.toNat.inj h))
  · exact .inr (.inr h)
/-- Numbers of so many bytes stand as they are. -/
theorem bl_be : ∀ (k m n : Nat) (r s : List UInt8), m < 256 ^ k → n < 256 ^ k → bytesLess (beN k m ++ r) (beN k n ++ s) = if m = n then bytesLess r s else decide (m < n)
  | 0, m, n, r, s, hm, hn => by
    have e : m = n := by simp at hm hn; omega
    rw [if_pos e]; rfl
  | k + 1, m, n, r, s, hm, hn => by
    have e : 256 ^ (k + 1) = 256 * 256 ^ k := by rw [Nat.pow_succ, Nat.mul_comm]
    have hm2 : m / 256 < 256 ^ k := by omega
    have hn2 : n / 256 < 256 ^ k := by omega
    have tm : (UInt8.ofNat (m % 256)).toNat = m % 256 := by rw [UInt8.toNat_ofNat']; omega
    have tn : (UInt8.ofNat (n % 256)).toNat = n % 256 := by rw [UInt8.toNat_ofNat']; omega
    rw [beN, beN, List.append_assoc, List.append_assoc, bl_be k _ _ _ _ hm2 hn2, List.singleton_append, List.singleton_append]
    by_cases h1 : m / 256 = n / 256
    · rw [if_pos h1]
      rcases Nat.lt_trichotomy (m % 256) (n % 256) with h2 | h2 | h2
      · rw [bl_lt (by omega), if_neg (by omega), decide_eq_true (by omega)]
      · rw [h2, bl_eq, if_pos (by omega)]
      · rw [bl_gt (by omega), if_neg (by omega), decide_eq_false (by omega)]
    · rw [if_neg h1, if_neg (by omega)]
      by_cases h2 : m / 256 < n / 256
      · rw [decide_eq_true h2, decide_eq_true (by omega)]
      · rw [decide_eq_false h2, decide_eq_false (by omega)]
theorem pos_of {c : UInt8} (h : ¬ c = 0) : (0 : UInt8).toNat < c.toNat := by
  rcases tri 0 c with h1 | h1 | h1
  · exact h1
  · exact absurd h1.symm h
  · exact absurd h1 (Nat.not_lt_zero _)
/-- Texts, as keys have them, stand as they are. -/
theorem bl_esc : ∀ (t u r s : List UInt8), bytesLess (esc t ++ 0 :: 1 :: r) (esc u ++ 0 :: 1 :: s) = if t = u then bytesLess r s else bytesLess t u
  | [], [], r, s => by rw [if_pos rfl]; show bytesLess (0 :: 1 :: r) (0 :: 1 :: s) = _; rw [bl_eq, bl_eq]
  | [], d :: u, r, s => by
    rw [if_neg (by simp), esc, esc]
    by_cases h : d = 0
    · rw [if_pos h, List.nil_append, List.cons_append, List.cons_append, bl_eq, bl_lt (by decide)]; rfl
    · rw [if_neg h, List.nil_append, List.cons_append, bl_lt (pos_of h)]; rfl
  | c :: t, [], r, s => by
    rw [if_neg (by simp), esc, esc]
    by_cases h : c = 0
    · rw [if_pos h, List.nil_append, List.cons_append, List.cons_append, bl_eq, bl_gt (by decide), bl_nil]
    · rw [if_neg h, List.nil_append, List.cons_append, bl_gt (pos_of h), bl_nil]
  | c :: t, d :: u, r, s => by
    rw [esc, esc]
    by_cases h : c = 0
    · subst h
      rw [if_pos rfl]
      by_cases h2 : d = 0
      · subst h2
        rw [if_pos rfl, List.cons_append, List.cons_append, List.cons_append, List.cons_append, bl_eq, bl_eq, bl_esc t u, bl_eq]
        simp
      · rw [if_neg h2, List.cons_append, List.cons_append, List.cons_append, bl_lt (pos_of h2), bl_lt (pos_of h2), if_neg (by simp; exact fun e => absurd e.symm h2)]
    · rw [if_neg h]
      by_cases h2 : d = 0
      · subst h2
        rw [if_pos rfl, List.cons_append, List.cons_append, bl_gt (pos_of h), bl_gt (pos_of h), if_neg (by simp [h])]
      · rw [if_neg h2, List.cons_append, List.cons_append]
        rcases tri c d with h3 | h3 | h3
        · rw [bl_lt h3, bl_lt h3, if_neg (by simp; rintro rfl; omega)]
        · subst h3
          rw [bl_eq, bl_eq, bl_esc t u]
          simp
        · rw [bl_gt h3, bl_gt h3, if_neg (by simp; rintro rfl; omega)]
theorem off_inj {a b : Int} (ha : inI a) (hb : inI b) : offI a = offI b ↔ a = b := by unfold offI inI at *; omega
theorem off_less {a b : Int} (ha : inI a) (hb : inI b) : offI a < offI b ↔ a < b := by unfold offI inI at *; omega
/-- The bytes of parts stand as the parts do. -/
theorem bl_part {p q : Part} (hp : may p) (hq : may q) (ip : inI p.int) (iq : inI q.int) (r s : List UInt8) : bytesLess (part p ++ r) (part q ++ s) = if p = q then bytesLess r s else decide (lessP p q) := by
  obtain ⟨k, a, t⟩ := p
  obtain ⟨k', a', t'⟩ := q
  rcases hp with ⟨h1, h2⟩ | ⟨h1, h2⟩ <;> rcases hq with ⟨h3, h4⟩ | ⟨h3, h4⟩ <;> simp only at h1 h2 h3 h4 ip iq <;> subst h1 <;> subst h2 <;> subst h3 <;> subst h4
  · rw [show part ⟨1, a, []⟩ = 1 :: beN 8 (offI a) from rfl, show part ⟨1, a', []⟩ = 1 :: beN 8 (offI a') from rfl, List.cons_append, List.cons_append, bl_eq, bl_be 8 _ _ _ _ (off_lt ip) (off_lt iq)]
    by_cases h : a = a'
    · rw [if_pos (by rw [h]), if_pos (by rw [h])]
    · rw [if_neg (fun e => h ((off_inj ip iq).1 e)), if_neg (by simpa using h)]
      congr 1
      rw [lessP_int (by simp) (by simpa using h), off_less ip iq]
  · rw [show part ⟨1, a, []⟩ = 1 :: beN 8 (offI a) from rfl, show part ⟨2, 0, t'⟩ = 2 :: (esc t' ++ [0, 1]) from rfl, List.cons_append, List.cons_append, bl_lt (by decide), if_neg (by simp), decide_eq_true]
    exact (lessP_kind (by simp)).2 (by decide : ((1 : UInt8).toNat : Int) < ((2 : UInt8).toNat : Int))
  · rw [show part ⟨1, a', []⟩ = 1 :: beN 8 (offI a') from rfl, show part ⟨2, 0, t⟩ = 2 :: (esc t ++ [0, 1]) from rfl, List.cons_append, List.cons_append, bl_gt (by decide), if_neg (by simp), decide_eq_false]
    exact fun x => absurd ((lessP_kind (by simp)).1 x) (by decide : ¬ ((2 : UInt8).toNat : Int) < ((1 : UInt8).toNat : Int))
  · rw [show part ⟨2, 0, t⟩ = 2 :: (esc t ++ [0, 1]) from rfl, show part ⟨2, 0, t'⟩ = 2 :: (esc t' ++ [0, 1]) from rfl, List.cons_append, List.cons_append, bl_eq, List.append_assoc, List.append_assoc]
    show bytesLess (esc t ++ 0 :: 1 :: r) (esc t' ++ 0 :: 1 :: s) = _
    rw [bl_esc]
    by_cases h : t = t'
    · rw [if_pos h, if_pos (by rw [h])]
    · rw [if_neg h, if_neg (by simpa using h)]
      rw [Bool.eq_iff_iff, decide_eq_true_iff, lessP_text (by simp) (by simp)]
/-- Lists whose key can be made. -/
def good (l : List Part) : Prop := ∀ p ∈ l, may p ∧ inI p.int
theorem good_tail {p : Part} {l : List Part} (h : good (p :: l)) : good l := fun q hq => h q (List.mem_cons_of_mem _ hq)
theorem key_cons (p : Part) (l : List Part) : keyL (p :: l) = part p ++ keyL l := rfl
theorem key_ne (p : Part) (l : List Part) : ∃ c r, keyL (p :: l) = c :: r := by
  obtain ⟨c, r, h⟩ := part_cons p
  exact ⟨c, r ++ keyL l, by rw [key_cons, h]; rfl⟩
/-- A list stands ahead of another one just if its key does. -/
theorem bl_key : ∀ (a b : List Part), good a → good b → (bytesLess (keyL a) (keyL b) = true ↔ lessL a b)
  | [], [], _, _ => by simp [keyL, lessL, bytesLess]
  | [], q :: b, _, _ => by
    obtain ⟨c, r, h⟩ := key_ne q b
    rw [h]; simp [keyL, lessL, bytesLess]
  | p :: a, [], _, _ => by
    rw [show keyL [] = [] from rfl, bl_nil]; simp [lessL]
  | p :: a, q :: b, ha, hb => by
    obtain ⟨h1, h2⟩ := ha p (by simp)
    obtain ⟨h3, h4⟩ := hb q (by simp)
    rw [key_cons, key_cons, bl_part h1 h3 h2 h4, lessL]
    by_cases h : p = q
    · rw [if_pos h, if_neg (by simpa using h)]; exact bl_key a b (good_tail ha) (good_tail hb)
    · rw [if_neg h, if_pos h, decide_eq_true_iff]
theorem key_inj {a b : List Part} (ha : good a) (hb : good b) : keyL a = keyL b ↔ a = b := by
  constructor
  · intro h
    have h1 := cut_key (max a.length b.length) a (by omega) ha
    have h2 := cut_key (max a.length b.length) b (by omega) hb
    rw [h, h2] at h1
    exact (Option.some.inj h1).symm
  · rintro rfl; rfl
theorem good_of {l : List Part} (hi : ∀ p ∈ l, inI p.int) (h : makeE l = 0) : good l ∧ makeS l = keyL l ∧ l.length ≤ 8 ∧ (keyL l).length ≤ 256 := by
  refine ⟨?_, if_pos h, ?_, ?_⟩ <;> unfold makeE at h
  · split at h
    · cases h
    · split at h
      · cases h
      · rename_i hm
        exact fun p hp => ⟨Decidable.not_not.1 hm p hp, hi p hp⟩
  · split at h
    · cases h
    · omega
  · split at h
    · cases h
    · split at h
      · cases h
      · split at h
        · cases h
        · omega
/-- What is cut can be made again, and is the key. -/
theorem made_cut {s : List UInt8} (h : cutE s = 0) : makeE (cutL s) = 0 ∧ makeS (cutL s) = s ∧ good (cutL s) := by
  have hl : cutL s = (cutO 8 s).getD [] := if_pos h
  unfold cutE at h
  split at h
  · cases h
  · rename_i h256
    split at h
    · rename_i hs
      obtain ⟨l, ho⟩ := Option.isSome_iff_exists.1 hs
      obtain ⟨h1, h2, h3⟩ := key_cut 8 s l ho
      have e : cutL s = l := by rw [hl, ho]; rfl
      have hm : makeE l = 0 := by
        rw [makeE, if_neg (by omega), if_neg (fun x => x fun p hp => (h3 p hp).1), if_neg (by rw [← h1]; omega)]
      rw [e]
      exact ⟨hm, by rw [makeS, if_pos hm, h1], h3⟩
    · cases h
theorem cut_made {l : List Part} (hi : ∀ p ∈ l, inI p.int) (h : makeE l = 0) : cutE (makeS l) = 0 ∧ cutL (makeS l) = l := by
  obtain ⟨h1, h2, h3, h4⟩ := good_of hi h
  have hc := cut_key 8 l h3 h1
  have e : cutE (keyL l) = 0 := by rw [cutE, if_neg (by omega), hc]; rfl
  rw [h2]
  exact ⟨e, by rw [cutL, if_pos e, hc]; rfl⟩
theorem cut_none {s : List UInt8} (h : ¬ cutE s = 0) : cutL s = [] := if_neg h

/-! ## What is behind all that begin so -/
theorem aft_spec (l : List UInt8) : ∀ n : Nat, aft l n ≤ n ∧ (∀ i, aft l n ≤ i → i < n → (l.getD i 0).toNat = 255) ∧ (aft l n ≠ 0 → (l.getD (aft l n - 1) 0).toNat ≠ 255)
  | 0 => ⟨Nat.le_refl _, fun i _ h => absurd h (Nat.not_lt_zero _), fun h => absurd rfl h⟩
  | n + 1 => by
    by_cases h : (l.getD n 0).toNat = 255
    · obtain ⟨h1, h2, h3⟩ := aft_spec l n
      rw [aft, if_pos h]
      refine ⟨by omega, fun i hi hn => ?_, h3⟩
      rcases Nat.lt_or_ge i n with h4 | h4
      · exact h2 i hi h4
      · rw [show i = n by omega]; exact h
    · rw [aft, if_neg h]
      exact ⟨Nat.le_refl _, fun i hi hn => absurd hi (by omega), fun _ => h⟩
theorem aft_form {l : List UInt8} (h : aftB l) : ∃ p c k, l = p ++ c :: List.replicate k 255 ∧ c.toNat < 255 ∧ aftS l = p ++ [c + 1] := by
  obtain ⟨h1, h2, h3⟩ := aft_spec l l.length
  have h0 : aft l l.length ≠ 0 := h
  obtain ⟨m, hm⟩ : ∃ m, aft l l.length = m + 1 := ⟨aft l l.length - 1, by omega⟩
  rw [hm] at h1 h2 h3
  have hml : m < l.length := by omega
  refine ⟨l.take m, l.getD m 0, l.length - (m + 1), ?_, ?_, ?_⟩
  · have e : l.drop (m + 1) = List.replicate (l.length - (m + 1)) 255 := by
      apply List.eq_replicate_iff.2
      refine ⟨by simp, fun b hb => ?_⟩
      obtain ⟨i, hi, rfl⟩ := List.mem_iff_getElem.1 hb
      rw [List.length_drop] at hi
      have := h2 (m + 1 + i) (by omega) (by omega)
      rw [List.getElem_drop]
      rw [List.getD_eq_getElem?_getD, List.getElem?_eq_getElem (by omega)] at this
      exact UInt8.toNat.inj this
    rw [← e]
    have e2 : l.getD m 0 = l[m] := by rw [List.getD_eq_getElem?_getD, List.getElem?_eq_getElem hml]; rfl
    rw [e2, ← List.drop_eq_getElem_cons hml, List.take_append_drop]
  · have := h3 (by omega)
    have := UInt8.toNat_lt (l.getD m 0)
    simp only [Nat.add_sub_cancel] at *
    omega
  · rw [aftS, if_neg h0, hm]; rfl
theorem succ_byte {c : UInt8} (h : c.toNat < 255) : (c + 1).toNat = c.toNat + 1 := by
  rw [UInt8.toNat_add, show (1 : UInt8).toNat = 1 from rfl]; omega
theorem bl_app (s m : List UInt8) : bytesLess (s ++ m) s = false := by
  have := bl_same s m []
  rw [List.append_nil, bl_nil] at this
  exact this
theorem full_of : ∀ (k : Nat) (u : List UInt8), bytesLess u (List.replicate k 255) = false → List.replicate k 255 <+: u
  | 0, u, _ => ⟨u, rfl⟩
  | k + 1, [], h => by rw [List.replicate_succ] at h; cases h
  | k + 1, e :: v, h => by
    rw [List.replicate_succ] at h ⊢
    rcases tri e 255 with h1 | h1 | h1
    · rw [bl_lt h1] at h; cases h
    · subst h1
      rw [bl_eq] at h
      obtain ⟨t, ht⟩ := full_of k v h
      exact ⟨t, by rw [List.cons_append, ht]⟩
    · have := UInt8.toNat_lt e
      rw [show (255 : UInt8).toNat = 255 from rfl] at h1
      omega
theorem between : ∀ (p : List UInt8) (c : UInt8) (k : Nat) (y : List UInt8), c.toNat < 255 → bytesLess y (p ++ c :: List.replicate k 255) = false → bytesLess y (p ++ [c + 1]) = true → (p ++ c :: List.replicate k 255) <+: y
  | [], c, k, [], _, h1, _ => by cases h1
  | [], c, k, d :: u, hc, h1, h2 => by
    rw [List.nil_append] at h1 h2 ⊢
    have hs := succ_byte hc
    rcases tri d c with h | h | h
    · rw [bl_lt h] at h1; cases h1
    · subst h
      rw [bl_eq] at h1
      obtain ⟨t, ht⟩ := full_of k u h1
      exact ⟨t, by rw [List.cons_append, ht]⟩
    · rcases tri d (c + 1) with h3 | h3 | h3
      · omega
      · subst h3
        rw [bl_eq, bl_nil] at h2; cases h2
      · rw [bl_gt h3] at h2; cases h2
  | a :: p, c, k, [], _, h1, _ => by cases h1
  | a :: p, c, k, d :: u, hc, h1, h2 => by
    rw [List.cons_append] at h1 h2 ⊢
    rcases tri d a with h | h | h
    · rw [bl_lt h] at h1; cases h1
    · subst h
      rw [bl_eq] at h1 h2
      obtain ⟨t, ht⟩ := between p c k u hc h1 h2
      exact ⟨t, by rw [List.cons_append, ht]⟩
    · rw [bl_gt h] at h2; cases h2
theorem aft_more {s : List UInt8} (h : aftB s) (more : List UInt8) : bytesLess (s ++ more) (aftS s) = true := by
  obtain ⟨p, c, k, h1, h2, h3⟩ := aft_form h
  rw [h3, h1, List.append_assoc, bl_same, List.cons_append, bl_lt (by rw [succ_byte h2]; omega)]
/-- What begins so stands between, and nothing else does. -/
theorem aft_begins {s : List UInt8} (h : aftB s) (y : List UInt8) : s <+: y ↔ (bytesLess y s = false ∧ bytesLess y (aftS s) = true) := by
  constructor
  · rintro ⟨t, rfl⟩
    exact ⟨bl_app s t, aft_more h t⟩
  · rintro ⟨h1, h2⟩
    obtain ⟨p, c, k, e1, e2, e3⟩ := aft_form h
    rw [e3] at h2
    rw [e1] at h1 ⊢
    exact between p c k y e2 h1 h2
theorem aft_none {s : List UInt8} (h : ¬ aftB s) : (∀ b ∈ s, b = 255) ∧ aftS s = [] := by
  have h0 : aft s s.length = 0 := Decidable.not_not.1 h
  refine ⟨fun b hb => ?_, if_pos h0⟩
  obtain ⟨i, hi, rfl⟩ := List.mem_iff_getElem.1 hb
  have := (aft_spec s s.length).2.1 i (by omega) hi
  rw [List.getD_eq_getElem?_getD, List.getElem?_eq_getElem hi] at this
  exact UInt8.toNat.inj this
theorem begins_iff {s y : List UInt8} : s <+: y ↔ (s.length ≤ y.length ∧ y.take s.length = s) := by
  constructor
  · intro h; exact ⟨h.length_le, (List.prefix_iff_eq_take.1 h).symm⟩
  · rintro ⟨_, h⟩; exact List.prefix_iff_eq_take.2 h.symm
theorem key_app (a b : List Part) : keyL (a ++ b) = keyL a ++ keyL b := by simp [keyL]
theorem key_take (l : List Part) (n : Nat) : keyL (l.take n) <+: keyL l := ⟨keyL (l.drop n), by rw [← key_app, List.take_append_drop]⟩
theorem esc_le2 : ∀ l : List UInt8, (esc l).length ≤ 2 * l.length
  | [] => Nat.le_refl _
  | c :: r => by
    rw [esc]
    have := esc_le2 r
    split <;> simp <;> omega
theorem part_le {p : Part} (h : p.text.length ≤ 256) : (part p).length ≤ 515 := by
  have h1 := esc_le2 p.text
  have h2 := beN_len 8 (offI p.int)
  unfold part
  split <;> simp <;> omega
theorem key_ge {p : Part} {l : List Part} (h : p ∈ l) : (part p).length ≤ (keyL l).length := by
  obtain ⟨a, b, rfl⟩ := List.append_of_mem h
  rw [key_app, key_cons]
  simp; omega
theorem key_snoc {l : List Part} {k : Nat} (h : k < l.length) : keyL (l.take (k + 1)) = keyL (l.take k) ++ part l[k] := by
  rw [List.take_add_one, List.getElem?_eq_getElem h, key_app]
  show _ ++ (part l[k] ++ []) = _
  rw [List.append_nil]
theorem part_int {p : Part} (h : p.kind = 1) : part p = [p.kind] ++ beN 8 (offI p.int) := by rw [part, if_pos h, h]; rfl
theorem part_text {p : Part} (h : may p) (h1 : ¬ p.kind = 1) : part p = [p.kind] ++ esc p.text ++ [0, 1] := by
  rcases h with ⟨h2, _⟩ | ⟨h2, _⟩
  · exact absurd h2 h1
  · rw [part, if_neg h1, h2]; simp
/-- There is something behind a key just if it has a part. -/
theorem aft_key {l : List Part} (h : good l) : aftB (keyL l) ↔ l ≠ [] := by
  cases l with
  | nil => simp [aftB, keyL, aft]
  | cons p l =>
    refine ⟨fun _ => by simp, fun _ => ?_⟩
    apply Decidable.by_contra
    intro hn
    have := (aft_none hn).1
    rcases (h p (by simp)).1 with ⟨h1, _⟩ | ⟨h1, _⟩
    · have h2 := this 1 (by rw [key_cons, part, if_pos h1]; simp)
      cases h2
    · have h2 := this 2 (by rw [key_cons, part, if_neg (by rw [h1]; decide)]; simp)
      cases h2
end Go.Key
