/-
  Numbers as keys have them, beside the bytes of bits: in plain Lean. No program in sight.
-/
import Derived.Test.YtkgckmdhlokjmaaDoorParts
import Derived.Test.YtkgckmdhlokjmaaDoorRead
import Derived.Test.YtkgckmdhlokjmaaDoorLaneC
namespace Go.Key
theorem xor63_lt {x : Nat} (h : x < 2 ^ 63) : x ^^^ 2 ^ 63 = 2 ^ 63 + x := by
  apply Nat.eq_of_testBit_eq
  intro i
  rw [Nat.testBit_xor, Nat.testBit_two_pow]
  rcases Nat.lt_trichotomy i 63 with h1 | h1 | h1
  · rw [Nat.testBit_two_pow_add_gt h1, decide_eq_false (by omega), Bool.xor_false]
  · subst h1
    rw [Nat.testBit_two_pow_add_eq, decide_eq_true rfl, Bool.xor_true]
  · rw [decide_eq_false (by omega), Bool.xor_false]
    have h2 : x < 2 ^ i := Nat.lt_of_lt_of_le h (Nat.pow_le_pow_right (by decide) (by omega))
    have h3 : 2 ^ 63 + x < 2 ^ i := Nat.lt_of_lt_of_le (show 2 ^ 63 + x < 2 ^ 64 by omega) (Nat.pow_le_pow_right (by decide) (by omega))
    rw [Nat.testBit_lt_two_pow h2, Nat.testBit_lt_two_pow h3]
theorem xor63 {x : Nat} (h : x < 2 ^ 64) : x ^^^ 2 ^ 63 = (x + 2 ^ 63) % 2 ^ 64 := by
  rcases Nat.lt_or_ge x (2 ^ 63) with h1 | h1
  · rw [xor63_lt h1]; omega
  · obtain ⟨z, rfl⟩ : ∃ z, x = 2 ^ 63 + z := ⟨x - 2 ^ 63, by omega⟩
    have hz : z < 2 ^ 63 := by omega
    rw [← xor63_lt hz, Nat.xor_assoc, Nat.xor_self, Nat.xor_zero, xor63_lt hz]
    omega
theorem xor_add (x : UInt64) : x ^^^ 9223372036854775808 = x + 9223372036854775808 := by
  apply UInt64.toNat.inj
  rw [UInt64.toNat_xor, UInt64.toNat_add]
  exact xor63 (UInt64.toNat_lt x)
theorem le_rev : ∀ (k : Nat) (l : List UInt8), l.length = k → Bits.le l.reverse = num l
  | 0, l, h => by rw [List.eq_nil_of_length_eq_zero h]; rfl
  | k + 1, l, h => by
    obtain ⟨m, x, rfl⟩ : ∃ m x, l = m ++ [x] := ⟨l.dropLast, l.getLast (by intro e; rw [e] at h; simp at h), (List.dropLast_concat_getLast _).symm⟩
    have hm : m.length = k := by simpa using h
    rw [List.reverse_append, num_snoc, List.reverse_singleton, List.singleton_append, Bits.le_cons, le_rev k m hm]
    omega
/-- The bytes of bits, turned round. -/
theorem be_put (n : UInt64) : (Bits.put n).reverse = beN 8 n.toNat := by
  have hl : (Bits.put n).reverse.length = 8 := by rw [List.length_reverse, Bits.put_len]
  have h1 := beN_num 8 _ hl
  have h2 := le_rev 8 (Bits.put n).reverse hl
  rw [List.reverse_reverse, Bits.le_put] at h2
  rw [← h1, ← h2]
/-- A number read out of a key, as an int64. -/
theorem back_xor {n : Nat} (h : n < 2 ^ 64) : IntKind.i64.wrap ((UInt64.ofNat n ^^^ 9223372036854775808).toNat : Int) = backI n := by
  have e : (UInt64.ofNat n).toNat = n := by rw [UInt64.toNat_ofNat']; exact Nat.mod_eq_of_lt h
  rw [xor_add, UInt64.toNat_add, e, show (9223372036854775808 : UInt64).toNat = 9223372036854775808 from rfl, IntKind.wrap_i64]
  unfold backI
  omega
/-- An int64 as a key has it. -/
theorem off_xor {a : Int} (h : inI a) : (UInt64.ofNat (a % 18446744073709551616).toNat ^^^ 9223372036854775808).toNat = offI a := by
  unfold inI at h
  have hl : (a % 18446744073709551616).toNat < 2 ^ 64 := by omega
  have e : (UInt64.ofNat (a % 18446744073709551616).toNat).toNat = (a % 18446744073709551616).toNat := by rw [UInt64.toNat_ofNat']; exact Nat.mod_eq_of_lt hl
  rw [xor_add, UInt64.toNat_add, e, show (9223372036854775808 : UInt64).toNat = 9223372036854775808 from rfl]
  unfold offI
  omega
end Go.Key
