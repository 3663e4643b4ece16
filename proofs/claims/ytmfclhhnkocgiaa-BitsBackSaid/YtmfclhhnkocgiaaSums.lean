/-
  The sum, bit by bit, is the sum by the table. Plain Lean.
-/
import Derived.Test.YtmfclhhnkocgiaaBits
namespace Go.Bits
def bit (r : UInt32) : UInt32 := if r % 2 = 1 then (r / 2) ^^^ 3988292384 else r / 2
def bits : Nat → UInt32 → UInt32
  | 0, r => r
  | k + 1, r => bit (bits k r)
def odd (r : UInt32) : UInt32 := if r % 2 = 1 then 3988292384 else 0
theorem half (r : UInt32) : r / (2 : UInt32) = r >>> (1 : UInt32) := by
  apply UInt32.toNat.inj
  have := UInt32.toNat_lt r
  rw [UInt32.toNat_div, UInt32.toNat_shiftRight]
  simp [Nat.shiftRight_eq_div_pow]
theorem bit_eq (r : UInt32) : bit r = (r >>> 1) ^^^ odd r := by
  unfold bit odd
  rw [half]; split <;> simp
theorem mod2 (r : UInt32) : (r % 2 = 1) ↔ (r.toNat % 2 = 1) := by
  constructor
  · intro h
    have := congrArg UInt32.toNat h
    rwa [UInt32.toNat_mod] at this
  · intro h
    apply UInt32.toNat.inj
    rw [UInt32.toNat_mod]; exact h
theorem odd_xor (a b : UInt32) : odd (a ^^^ b) = odd a ^^^ odd b := by
  have e : (a ^^^ b).toNat % 2 = (a.toNat % 2 + b.toNat % 2) % 2 := by
    rw [UInt32.toNat_xor]
    have h1 := @Nat.xor_mod_two_pow a.toNat b.toNat 1
    rw [Nat.pow_one] at h1
    rw [h1]
    rcases Nat.mod_two_eq_zero_or_one a.toNat with ha | ha <;> rcases Nat.mod_two_eq_zero_or_one b.toNat with hb | hb <;> rw [ha, hb] <;> rfl
  unfold odd
  simp only [mod2, e]
  rcases Nat.mod_two_eq_zero_or_one a.toNat with ha | ha <;> rcases Nat.mod_two_eq_zero_or_one b.toNat with hb | hb <;> rw [ha, hb] <;> decide
theorem bit_xor (a b : UInt32) : bit (a ^^^ b) = bit a ^^^ bit b := by
  have e : (a ^^^ b) >>> 1 = (a >>> 1) ^^^ (b >>> 1) := by
    apply UInt32.toBitVec_inj.1
    simp only [UInt32.toBitVec_xor, UInt32.toBitVec_shiftRight]
    ext i
    simp
  rw [bit_eq, bit_eq, bit_eq, e, odd_xor, xor_swap]
theorem bits_xor (a b : UInt32) : ∀ k, bits k (a ^^^ b) = bits k a ^^^ bits k b
  | 0 => rfl
  | k + 1 => by rw [bits, bits_xor a b k, bit_xor]; rfl
theorem bit_even {h : UInt32} {m : Nat} (e : h.toNat = 2 * m) : (bit h).toNat = m := by
  have : ¬ h % 2 = 1 := by rw [mod2]; omega
  unfold bit
  rw [if_neg this, UInt32.toNat_div, e]
  show 2 * m / 2 = m
  omega
theorem bits_low : ∀ i : Fin 16, bits 4 (UInt32.ofNat i.val) = tab i.val := by decide +kernel
theorem split16 (y : Nat) : (16 * (y / 16)) ^^^ (y % 16) = y := by
  apply Nat.eq_of_testBit_eq
  intro i
  rw [Nat.testBit_xor, show 16 = 2 ^ 4 from rfl, Nat.testBit_two_pow_mul, Nat.testBit_mod_two_pow, Nat.testBit_div_two_pow]
  by_cases h : i < 4
  · simp [h, Nat.not_le.2 h]
  · simp [h, Nat.not_lt.1 h, Nat.sub_add_cancel (Nat.not_lt.1 h)]
theorem bits4 (y : UInt32) : bits 4 y = (y >>> 4) ^^^ tab (y &&& 15).toNat := by
  have hy := UInt32.toNat_lt y
  have e : y = UInt32.ofNat (16 * (y.toNat / 16)) ^^^ UInt32.ofNat (y.toNat % 16) := by
    apply UInt32.toNat.inj
    rw [UInt32.toNat_xor, UInt32.toNat_ofNat', UInt32.toNat_ofNat', Nat.mod_eq_of_lt (by omega), Nat.mod_eq_of_lt (by omega), split16]
  have h1 : bits 4 (UInt32.ofNat (16 * (y.toNat / 16))) = y >>> 4 := by
    apply UInt32.toNat.inj
    have e0 : (UInt32.ofNat (16 * (y.toNat / 16))).toNat = 2 * (2 * (2 * (2 * (y.toNat / 16)))) := by rw [UInt32.toNat_ofNat']; omega
    have e1 := bit_even (bit_even (bit_even (bit_even e0)))
    show (bit (bit (bit (bit (UInt32.ofNat (16 * (y.toNat / 16))))))).toNat = _
    rw [e1, ← sh_eq, UInt32.toNat_ofNat']
    show _ = y.toNat / 16 % _
    omega
  have h2 : (y &&& 15).toNat = y.toNat % 16 := by
    rw [UInt32.toNat_and]
    exact Nat.and_two_pow_sub_one_eq_mod y.toNat 4
  have h3 := bits_low ⟨y.toNat % 16, by omega⟩
  rw [h2]
  conv => lhs; rw [e, bits_xor]
  rw [h1, h3]
theorem bits_add (k : Nat) (r : UInt32) : ∀ j, bits (j + k) r = bits j (bits k r)
  | 0 => by rw [Nat.zero_add]; rfl
  | j + 1 => by rw [show j + 1 + k = (j + k) + 1 by omega, bits, bits_add k r j]; rfl
theorem bits8 (r : UInt32) (x : UInt8) : bits 8 (r ^^^ UInt32.ofNat x.toNat) = stepT r x := by
  have hx := UInt8.toNat_lt x
  have e1 : UInt32.ofNat (UInt8.ofNat (x.toNat / 2 ^ 4)).toNat = UInt32.ofNat x.toNat >>> 4 := by
    rw [← sh_eq]
    congr 1
    rw [UInt8.toNat_ofNat', UInt32.toNat_ofNat']
    omega
  have e2 : (UInt32.ofNat x.toNat >>> 4) >>> 4 = 0 := by
    apply UInt32.toNat.inj
    rw [← sh_eq, ← sh_eq, UInt32.toNat_ofNat', UInt32.toNat_ofNat', UInt32.toNat_ofNat']
    show _ = 0
    omega
  rw [show (8 : Nat) = 4 + 4 from rfl, bits_add, bits4 (r ^^^ _), stepT, nib_eq r, e1, nib_eq]
  rw [sh_xor]
  generalize tab ((r ^^^ UInt32.ofNat x.toNat) &&& 15).toNat = t
  generalize r >>> 4 = a
  generalize UInt32.ofNat x.toNat >>> 4 = b at e2 ⊢
  rw [show (a ^^^ b) ^^^ t = (a ^^^ t) ^^^ b by rw [UInt32.xor_assoc, UInt32.xor_comm b t, ← UInt32.xor_assoc]]
  rw [bits4, sh_xor (a ^^^ t) b, e2, UInt32.xor_zero]
end Go.Bits
