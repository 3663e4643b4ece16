/-
  The lane, part C: the laws of the operations that only compute values. Printed in part by wip/lib/genC.py.
  Generic in the program.
-/
import Derived.Test.YtkgckmdhlokjmaaDoorLaneB
import Derived.WalkLawsBesides
import Derived.WalkSpells
namespace Go.Lane

@[reducible] def u8 (x : UInt8) : Value := .int .u8 (x.toNat : Int)
@[reducible] def u32 (x : UInt32) : Value := .int .u32 (x.toNat : Int)
@[reducible] def u64 (x : UInt64) : Value := .int .u64 (x.toNat : Int)
/-- A string by its bytes. -/
@[reducible] def str (l : List UInt8) : Value := .string ⟨l.toArray⟩

theorem str_of (s : ByteArray) : ∃ l, Value.string s = str l := ⟨s.data.toList, by cases s; rfl⟩

theorem wrap_u8 (n : Int) : IntKind.u8.wrap n = n % 256 := by simp [IntKind.wrap, IntKind.bits, IntKind.signed]
theorem wrap_u32 (n : Int) : IntKind.u32.wrap n = n % 4294967296 := by simp [IntKind.wrap, IntKind.bits, IntKind.signed]
theorem wrap_u64 (n : Int) : IntKind.u64.wrap n = n % 18446744073709551616 := by simp [IntKind.wrap, IntKind.bits, IntKind.signed]
theorem wrap_i64 {n : Int} (h1 : -9223372036854775808 ≤ n) (h2 : n ≤ 9223372036854775807) : IntKind.i64.wrap n = n := by
  show (if (true && decide (n % 18446744073709551616 ≥ 9223372036854775808)) = true then n % 18446744073709551616 - 18446744073709551616 else n % 18446744073709551616) = n
  simp only [Bool.true_and, ge_iff_le, decide_eq_true_eq]
  split <;> omega

/-! ### u8 -/
theorem u8_lt (x : UInt8) : (x.toNat : Int) < 256 := by have := UInt8.toNat_lt x; omega
theorem wrap_u8_nat (m : Nat) : IntKind.u8.wrap (m : Int) = ((UInt8.ofNat m).toNat : Int) := by
  rw [wrap_u8, UInt8.toNat_ofNat']
  omega
theorem wrap_u8_self (x : UInt8) : IntKind.u8.wrap (x.toNat : Int) = (x.toNat : Int) := by
  have := u8_lt x
  rw [wrap_u8]; omega
theorem ofInt_u8 (x : UInt8) : BitVec.ofInt 8 (x.toNat : Int) = x.toBitVec := by
  rw [BitVec.ofInt_natCast]
  apply BitVec.eq_of_toNat_eq
  rw [BitVec.toNat_ofNat, UInt8.toNat_toBitVec]
  exact Nat.mod_eq_of_lt (UInt8.toNat_lt x)
theorem bits_and_u8 (x y : UInt8) : Op.intBits .and .u8 (x.toNat : Int) (y.toNat : Int) = pure (u8 (x &&& y)) := by
  simp only [Op.intBits, IntKind.bits, ofInt_u8]
  show pure (Value.int .u8 (IntKind.u8.wrap ((x.toBitVec &&& y.toBitVec).toNat : Int))) = _
  rw [show (x.toBitVec &&& y.toBitVec).toNat = (x &&& y).toNat from rfl, wrap_u8_self]
theorem bits_or_u8 (x y : UInt8) : Op.intBits .or .u8 (x.toNat : Int) (y.toNat : Int) = pure (u8 (x ||| y)) := by
  simp only [Op.intBits, IntKind.bits, ofInt_u8]
  show pure (Value.int .u8 (IntKind.u8.wrap ((x.toBitVec ||| y.toBitVec).toNat : Int))) = _
  rw [show (x.toBitVec ||| y.toBitVec).toNat = (x ||| y).toNat from rfl, wrap_u8_self]
theorem bits_xor_u8 (x y : UInt8) : Op.intBits .xor .u8 (x.toNat : Int) (y.toNat : Int) = pure (u8 (x ^^^ y)) := by
  simp only [Op.intBits, IntKind.bits, ofInt_u8]
  show pure (Value.int .u8 (IntKind.u8.wrap ((x.toBitVec ^^^ y.toBitVec).toNat : Int))) = _
  rw [show (x.toBitVec ^^^ y.toBitVec).toNat = (x ^^^ y).toNat from rfl, wrap_u8_self]
theorem bits_andNot_u8 (x y : UInt8) : Op.intBits .andNot .u8 (x.toNat : Int) (y.toNat : Int) = pure (u8 (x &&& ~~~ y)) := by
  simp only [Op.intBits, IntKind.bits, ofInt_u8]
  show pure (Value.int .u8 (IntKind.u8.wrap ((x.toBitVec &&& ~~~ y.toBitVec).toNat : Int))) = _
  rw [show (x.toBitVec &&& ~~~ y.toBitVec).toNat = (x &&& ~~~ y).toNat from rfl, wrap_u8_self]
theorem bits_not_u8 (x : UInt8) : Op.unary .xor (u8 x) = pure (u8 (~~~ x)) := by
  have hm : BitVec.ofInt 8 (IntKind.max .u8) = BitVec.allOnes 8 := by decide
  simp only [Op.unary, Op.intBits, IntKind.bits, IntKind.signed, ofInt_u8, Bool.false_eq_true, if_false]
  show pure (Value.int .u8 (IntKind.u8.wrap ((BitVec.ofInt 8 (IntKind.max .u8) ^^^ x.toBitVec).toNat : Int))) = _
  rw [hm, BitVec.allOnes_xor, show (~~~ x.toBitVec).toNat = (~~~ x).toNat from rfl, wrap_u8_self]
theorem arith_add_u8 (x y : UInt8) : Op.intArith .add .u8 (x.toNat : Int) (y.toNat : Int) = pure (u8 (x + y)) := by
  simp only [Op.intArith]
  rw [show ((x.toNat : Int) + (y.toNat : Int)) = ((x.toNat + y.toNat : Nat) : Int) from by simp, wrap_u8_nat]
  show pure (Value.int .u8 _) = pure (Value.int .u8 _)
  rw [UInt8.toNat_ofNat', UInt8.toNat_add]
theorem arith_sub_u8 (x y : UInt8) : Op.intArith .sub .u8 (x.toNat : Int) (y.toNat : Int) = pure (u8 (x - y)) := by
  simp only [Op.intArith, wrap_u8]
  have h1 := u8_lt x
  have h2 := u8_lt y
  have h3 := UInt8.toNat_sub x y
  have e : (((x - y).toNat : Nat) : Int) = ((x.toNat : Int) - (y.toNat : Int)) % 256 := by
    rw [h3]; omega
  show pure (Value.int .u8 _) = pure (Value.int .u8 _)
  rw [e]
theorem arith_mul_u8 (x y : UInt8) : Op.intArith .mul .u8 (x.toNat : Int) (y.toNat : Int) = pure (u8 (x * y)) := by
  simp only [Op.intArith]
  rw [show ((x.toNat : Int) * (y.toNat : Int)) = ((x.toNat * y.toNat : Nat) : Int) from by simp, wrap_u8_nat]
  show pure (Value.int .u8 _) = pure (Value.int .u8 _)
  rw [UInt8.toNat_ofNat', UInt8.toNat_mul]
theorem div_quo_u8 (x y : UInt8) (hy : y.toNat ≠ 0) : Op.intDiv .quo .u8 (x.toNat : Int) (y.toNat : Int) = pure (u8 (x / y)) := by
  simp only [Op.intDiv]
  rw [if_neg (by omega)]
  rw [show ((x.toNat : Int).tdiv (y.toNat : Int)) = ((x / y).toNat : Int) from by rw [UInt8.toNat_div]; exact (Int.ofNat_tdiv _ _).symm, wrap_u8_self]
theorem div_rem_u8 (x y : UInt8) (hy : y.toNat ≠ 0) : Op.intDiv .rem .u8 (x.toNat : Int) (y.toNat : Int) = pure (u8 (x % y)) := by
  simp only [Op.intDiv]
  rw [if_neg (by omega)]
  rw [show ((x.toNat : Int).tmod (y.toNat : Int)) = ((x % y).toNat : Int) from by rw [UInt8.toNat_mod]; exact (Int.ofNat_tmod _ _).symm]
theorem val_shl_u8 (x : UInt8) (s : Int) (hs : 0 ≤ s) (yk : IntKind) : Op.shift .shl .u8 (x.toNat : Int) yk s = pure (u8 (UInt8.ofNat (x.toNat * 2 ^ s.toNat))) := by
  simp only [Op.shift]
  rw [if_neg (by omega)]
  rw [show ((x.toNat : Int) * 2 ^ min s.toNat IntKind.u8.bits) = ((x.toNat * 2 ^ min s.toNat 8 : Nat) : Int) from by simp [IntKind.bits], wrap_u8_nat]
  have : UInt8.ofNat (x.toNat * 2 ^ min s.toNat 8) = UInt8.ofNat (x.toNat * 2 ^ s.toNat) := by
    rcases Nat.le_total s.toNat 8 with h | h
    · rw [Nat.min_eq_left h]
    · rw [Nat.min_eq_right h]
      apply UInt8.toNat.inj
      rw [UInt8.toNat_ofNat', UInt8.toNat_ofNat']
      obtain ⟨j, hj⟩ : ∃ j, s.toNat = 8 + j := ⟨s.toNat - 8, by omega⟩
      rw [hj, Nat.pow_add, ← Nat.mul_assoc, Nat.mul_comm x.toNat, Nat.mul_assoc, Nat.mul_mod_right, Nat.mul_mod_right]
  rw [this]
theorem val_shr_u8 (x : UInt8) (s : Int) (hs : 0 ≤ s) (yk : IntKind) : Op.shift .shr .u8 (x.toNat : Int) yk s = pure (u8 (UInt8.ofNat (x.toNat / 2 ^ s.toNat))) := by
  simp only [Op.shift]
  rw [if_neg (by omega)]
  have hx := UInt8.toNat_lt x
  have key : x.toNat / 2 ^ min s.toNat 8 = x.toNat / 2 ^ s.toNat := by
    rcases Nat.le_total s.toNat 8 with h | h
    · rw [Nat.min_eq_left h]
    · rw [Nat.min_eq_right h, Nat.div_eq_of_lt hx, Nat.div_eq_of_lt (Nat.lt_of_lt_of_le hx (Nat.pow_le_pow_right (by omega) h))]
  have e : (x.toNat : Int).fdiv (2 ^ min s.toNat IntKind.u8.bits) = ((x.toNat / 2 ^ s.toNat : Nat) : Int) := by
    rw [← key, Int.fdiv_eq_ediv_of_nonneg _ (by exact Int.le_of_lt (Int.pow_pos (by omega)))]
    simp [IntKind.bits]
  have hlt : x.toNat / 2 ^ s.toNat < 2 ^ 8 := Nat.lt_of_le_of_lt (Nat.div_le_self _ _) hx
  rw [e]
  congr 2
  rw [UInt8.toNat_ofNat', Nat.mod_eq_of_lt hlt]

/-! ### u32 -/
theorem u32_lt (x : UInt32) : (x.toNat : Int) < 4294967296 := by have := UInt32.toNat_lt x; omega
theorem wrap_u32_nat (m : Nat) : IntKind.u32.wrap (m : Int) = ((UInt32.ofNat m).toNat : Int) := by
  rw [wrap_u32, UInt32.toNat_ofNat']
  omega
theorem wrap_u32_self (x : UInt32) : IntKind.u32.wrap (x.toNat : Int) = (x.toNat : Int) := by
  have := u32_lt x
  rw [wrap_u32]; omega
theorem ofInt_u32 (x : UInt32) : BitVec.ofInt 32 (x.toNat : Int) = x.toBitVec := by
  rw [BitVec.ofInt_natCast]
  apply BitVec.eq_of_toNat_eq
  rw [BitVec.toNat_ofNat, UInt32.toNat_toBitVec]
  exact Nat.mod_eq_of_lt (UInt32.toNat_lt x)
theorem bits_and_u32 (x y : UInt32) : Op.intBits .and .u32 (x.toNat : Int) (y.toNat : Int) = pure (u32 (x &&& y)) := by
  simp only [Op.intBits, IntKind.bits, ofInt_u32]
  show pure (Value.int .u32 (IntKind.u32.wrap ((x.toBitVec &&& y.toBitVec).toNat : Int))) = _
  rw [show (x.toBitVec &&& y.toBitVec).toNat = (x &&& y).toNat from rfl, wrap_u32_self]
theorem bits_or_u32 (x y : UInt32) : Op.intBits .or .u32 (x.toNat : Int) (y.toNat : Int) = pure (u32 (x ||| y)) := by
  simp only [Op.intBits, IntKind.bits, ofInt_u32]
  show pure (Value.int .u32 (IntKind.u32.wrap ((x.toBitVec ||| y.toBitVec).toNat : Int))) = _
  rw [show (x.toBitVec ||| y.toBitVec).toNat = (x ||| y).toNat from rfl, wrap_u32_self]
theorem bits_xor_u32 (x y : UInt32) : Op.intBits .xor .u32 (x.toNat : Int) (y.toNat : Int) = pure (u32 (x ^^^ y)) := by
  simp only [Op.intBits, IntKind.bits, ofInt_u32]
  show pure (Value.int .u32 (IntKind.u32.wrap ((x.toBitVec ^^^ y.toBitVec).toNat : Int))) = _
  rw [show (x.toBitVec ^^^ y.toBitVec).toNat = (x ^^^ y).toNat from rfl, wrap_u32_self]
theorem bits_andNot_u32 (x y : UInt32) : Op.intBits .andNot .u32 (x.toNat : Int) (y.toNat : Int) = pure (u32 (x &&& ~~~ y)) := by
  simp only [Op.intBits, IntKind.bits, ofInt_u32]
  show pure (Value.int .u32 (IntKind.u32.wrap ((x.toBitVec &&& ~~~ y.toBitVec).toNat : Int))) = _
  rw [show (x.toBitVec &&& ~~~ y.toBitVec).toNat = (x &&& ~~~ y).toNat from rfl, wrap_u32_self]
theorem bits_not_u32 (x : UInt32) : Op.unary .xor (u32 x) = pure (u32 (~~~ x)) := by
  have hm : BitVec.ofInt 32 (IntKind.max .u32) = BitVec.allOnes 32 := by decide
  simp only [Op.unary, Op.intBits, IntKind.bits, IntKind.signed, ofInt_u32, Bool.false_eq_true, if_false]
  show pure (Value.int .u32 (IntKind.u32.wrap ((BitVec.ofInt 32 (IntKind.max .u32) ^^^ x.toBitVec).toNat : Int))) = _
  rw [hm, BitVec.allOnes_xor, show (~~~ x.toBitVec).toNat = (~~~ x).toNat from rfl, wrap_u32_self]
theorem arith_add_u32 (x y : UInt32) : Op.intArith .add .u32 (x.toNat : Int) (y.toNat : Int) = pure (u32 (x + y)) := by
  simp only [Op.intArith]
  rw [show ((x.toNat : Int) + (y.toNat : Int)) = ((x.toNat + y.toNat : Nat) : Int) from by simp, wrap_u32_nat]
  show pure (Value.int .u32 _) = pure (Value.int .u32 _)
  rw [UInt32.toNat_ofNat', UInt32.toNat_add]
theorem arith_sub_u32 (x y : UInt32) : Op.intArith .sub .u32 (x.toNat : Int) (y.toNat : Int) = pure (u32 (x - y)) := by
  simp only [Op.intArith, wrap_u32]
  have h1 := u32_lt x
  have h2 := u32_lt y
  have h3 := UInt32.toNat_sub x y
  have e : (((x - y).toNat : Nat) : Int) = ((x.toNat : Int) - (y.toNat : Int)) % 4294967296 := by
    rw [h3]; omega
  show pure (Value.int .u32 _) = pure (Value.int .u32 _)
  rw [e]
theorem arith_mul_u32 (x y : UInt32) : Op.intArith .mul .u32 (x.toNat : Int) (y.toNat : Int) = pure (u32 (x * y)) := by
  simp only [Op.intArith]
  rw [show ((x.toNat : Int) * (y.toNat : Int)) = ((x.toNat * y.toNat : Nat) : Int) from by simp, wrap_u32_nat]
  show pure (Value.int .u32 _) = pure (Value.int .u32 _)
  rw [UInt32.toNat_ofNat', UInt32.toNat_mul]
theorem div_quo_u32 (x y : UInt32) (hy : y.toNat ≠ 0) : Op.intDiv .quo .u32 (x.toNat : Int) (y.toNat : Int) = pure (u32 (x / y)) := by
  simp only [Op.intDiv]
  rw [if_neg (by omega)]
  rw [show ((x.toNat : Int).tdiv (y.toNat : Int)) = ((x / y).toNat : Int) from by rw [UInt32.toNat_div]; exact (Int.ofNat_tdiv _ _).symm, wrap_u32_self]
theorem div_rem_u32 (x y : UInt32) (hy : y.toNat ≠ 0) : Op.intDiv .rem .u32 (x.toNat : Int) (y.toNat : Int) = pure (u32 (x % y)) := by
  simp only [Op.intDiv]
  rw [if_neg (by omega)]
  rw [show ((x.toNat : Int).tmod (y.toNat : Int)) = ((x % y).toNat : Int) from by rw [UInt32.toNat_mod]; exact (Int.ofNat_tmod _ _).symm]
theorem val_shl_u32 (x : UInt32) (s : Int) (hs : 0 ≤ s) (yk : IntKind) : Op.shift .shl .u32 (x.toNat : Int) yk s = pure (u32 (UInt32.ofNat (x.toNat * 2 ^ s.toNat))) := by
  simp only [Op.shift]
  rw [if_neg (by omega)]
  rw [show ((x.toNat : Int) * 2 ^ min s.toNat IntKind.u32.bits) = ((x.toNat * 2 ^ min s.toNat 32 : Nat) : Int) from by simp [IntKind.bits], wrap_u32_nat]
  have : UInt32.ofNat (x.toNat * 2 ^ min s.toNat 32) = UInt32.ofNat (x.toNat * 2 ^ s.toNat) := by
    rcases Nat.le_total s.toNat 32 with h | h
    · rw [Nat.min_eq_left h]
    · rw [Nat.min_eq_right h]
      apply UInt32.toNat.inj
      rw [UInt32.toNat_ofNat', UInt32.toNat_ofNat']
      obtain ⟨j, hj⟩ : ∃ j, s.toNat = 32 + j := ⟨s.toNat - 32, by omega⟩
      rw [hj, Nat.pow_add, ← Nat.mul_assoc, Nat.mul_comm x.toNat, Nat.mul_assoc, Nat.mul_mod_right, Nat.mul_mod_right]
  rw [this]
theorem val_shr_u32 (x : UInt32) (s : Int) (hs : 0 ≤ s) (yk : IntKind) : Op.shift .shr .u32 (x.toNat : Int) yk s = pure (u32 (UInt32.ofNat (x.toNat / 2 ^ s.toNat))) := by
  simp only [Op.shift]
  rw [if_neg (by omega)]
  have hx := UInt32.toNat_lt x
  have key : x.toNat / 2 ^ min s.toNat 32 = x.toNat / 2 ^ s.toNat := by
    rcases Nat.le_total s.toNat 32 with h | h
    · rw [Nat.min_eq_left h]
    · rw [Nat.min_eq_right h, Nat.div_eq_of_lt hx, Nat.div_eq_of_lt (Nat.lt_of_lt_of_le hx (Nat.pow_le_pow_right (by omega) h))]
  have e : (x.toNat : Int).fdiv (2 ^ min s.toNat IntKind.u32.bits) = ((x.toNat / 2 ^ s.toNat : Nat) : Int) := by
    rw [← key, Int.fdiv_eq_ediv_of_nonneg _ (by exact Int.le_of_lt (Int.pow_pos (by omega)))]
    simp [IntKind.bits]
  have hlt : x.toNat / 2 ^ s.toNat < 2 ^ 32 := Nat.lt_of_le_of_lt (Nat.div_le_self _ _) hx
  rw [e]
  congr 2
  rw [UInt32.toNat_ofNat', Nat.mod_eq_of_lt hlt]

/-! ### u64 -/
theorem u64_lt (x : UInt64) : (x.toNat : Int) < 18446744073709551616 := by have := UInt64.toNat_lt x; omega
theorem wrap_u64_nat (m : Nat) : IntKind.u64.wrap (m : Int) = ((UInt64.ofNat m).toNat : Int) := by
  rw [wrap_u64, UInt64.toNat_ofNat']
  omega
theorem wrap_u64_self (x : UInt64) : IntKind.u64.wrap (x.toNat : Int) = (x.toNat : Int) := by
  have := u64_lt x
  rw [wrap_u64]; omega
theorem ofInt_u64 (x : UInt64) : BitVec.ofInt 64 (x.toNat : Int) = x.toBitVec := by
  rw [BitVec.ofInt_natCast]
  apply BitVec.eq_of_toNat_eq
  rw [BitVec.toNat_ofNat, UInt64.toNat_toBitVec]
  exact Nat.mod_eq_of_lt (UInt64.toNat_lt x)
theorem bits_and_u64 (x y : UInt64) : Op.intBits .and .u64 (x.toNat : Int) (y.toNat : Int) = pure (u64 (x &&& y)) := by
  simp only [Op.intBits, IntKind.bits, ofInt_u64]
  show pure (Value.int .u64 (IntKind.u64.wrap ((x.toBitVec &&& y.toBitVec).toNat : Int))) = _
  rw [show (x.toBitVec &&& y.toBitVec).toNat = (x &&& y).toNat from rfl, wrap_u64_self]
theorem bits_or_u64 (x y : UInt64) : Op.intBits .or .u64 (x.toNat : Int) (y.toNat : Int) = pure (u64 (x ||| y)) := by
  simp only [Op.intBits, IntKind.bits, ofInt_u64]
  show pure (Value.int .u64 (IntKind.u64.wrap ((x.toBitVec ||| y.toBitVec).toNat : Int))) = _
  rw [show (x.toBitVec ||| y.toBitVec).toNat = (x ||| y).toNat from rfl, wrap_u64_self]
theorem bits_xor_u64 (x y : UInt64) : Op.intBits .xor .u64 (x.toNat : Int) (y.toNat : Int) = pure (u64 (x ^^^ y)) := by
  simp only [Op.intBits, IntKind.bits, ofInt_u64]
  show pure (Value.int .u64 (IntKind.u64.wrap ((x.toBitVec ^^^ y.toBitVec).toNat : Int))) = _
  rw [show (x.toBitVec ^^^ y.toBitVec).toNat = (x ^^^ y).toNat from rfl, wrap_u64_self]
theorem bits_andNot_u64 (x y : UInt64) : Op.intBits .andNot .u64 (x.toNat : Int) (y.toNat : Int) = pure (u64 (x &&& ~~~ y)) := by
  simp only [Op.intBits, IntKind.bits, ofInt_u64]
  show pure (Value.int .u64 (IntKind.u64.wrap ((x.toBitVec &&& ~~~ y.toBitVec).toNat : Int))) = _
  rw [show (x.toBitVec &&& ~~~ y.toBitVec).toNat = (x &&& ~~~ y).toNat from rfl, wrap_u64_self]
theorem bits_not_u64 (x : UInt64) : Op.unary .xor (u64 x) = pure (u64 (~~~ x)) := by
  have hm : BitVec.ofInt 64 (IntKind.max .u64) = BitVec.allOnes 64 := by decide
  simp only [Op.unary, Op.intBits, IntKind.bits, IntKind.signed, ofInt_u64, Bool.false_eq_true, if_false]
  show pure (Value.int .u64 (IntKind.u64.wrap ((BitVec.ofInt 64 (IntKind.max .u64) ^^^ x.toBitVec).toNat : Int))) = _
  rw [hm, BitVec.allOnes_xor, show (~~~ x.toBitVec).toNat = (~~~ x).toNat from rfl, wrap_u64_self]
theorem arith_add_u64 (x y : UInt64) : Op.intArith .add .u64 (x.toNat : Int) (y.toNat : Int) = pure (u64 (x + y)) := by
  simp only [Op.intArith]
  rw [show ((x.toNat : Int) + (y.toNat : Int)) = ((x.toNat + y.toNat : Nat) : Int) from by simp, wrap_u64_nat]
  show pure (Value.int .u64 _) = pure (Value.int .u64 _)
  rw [UInt64.toNat_ofNat', UInt64.toNat_add]
theorem arith_sub_u64 (x y : UInt64) : Op.intArith .sub .u64 (x.toNat : Int) (y.toNat : Int) = pure (u64 (x - y)) := by
  simp only [Op.intArith, wrap_u64]
  have h1 := u64_lt x
  have h2 := u64_lt y
  have h3 := UInt64.toNat_sub x y
  have e : (((x - y).toNat : Nat) : Int) = ((x.toNat : Int) - (y.toNat : Int)) % 18446744073709551616 := by
    rw [h3]; omega
  show pure (Value.int .u64 _) = pure (Value.int .u64 _)
  rw [e]
theorem arith_mul_u64 (x y : UInt64) : Op.intArith .mul .u64 (x.toNat : Int) (y.toNat : Int) = pure (u64 (x * y)) := by
  simp only [Op.intArith]
  rw [show ((x.toNat : Int) * (y.toNat : Int)) = ((x.toNat * y.toNat : Nat) : Int) from by simp, wrap_u64_nat]
  show pure (Value.int .u64 _) = pure (Value.int .u64 _)
  rw [UInt64.toNat_ofNat', UInt64.toNat_mul]
theorem div_quo_u64 (x y : UInt64) (hy : y.toNat ≠ 0) : Op.intDiv .quo .u64 (x.toNat : Int) (y.toNat : Int) = pure (u64 (x / y)) := by
  simp only [Op.intDiv]
  rw [if_neg (by omega)]
  rw [show ((x.toNat : Int).tdiv (y.toNat : Int)) = ((x / y).toNat : Int) from by rw [UInt64.toNat_div]; exact (Int.ofNat_tdiv _ _).symm, wrap_u64_self]
theorem div_rem_u64 (x y : UInt64) (hy : y.toNat ≠ 0) : Op.intDiv .rem .u64 (x.toNat : Int) (y.toNat : Int) = pure (u64 (x % y)) := by
  simp only [Op.intDiv]
  rw [if_neg (by omega)]
  rw [show ((x.toNat : Int).tmod (y.toNat : Int)) = ((x % y).toNat : Int) from by rw [UInt64.toNat_mod]; exact (Int.ofNat_tmod _ _).symm]
theorem val_shl_u64 (x : UInt64) (s : Int) (hs : 0 ≤ s) (yk : IntKind) : Op.shift .shl .u64 (x.toNat : Int) yk s = pure (u64 (UInt64.ofNat (x.toNat * 2 ^ s.toNat))) := by
  simp only [Op.shift]
  rw [if_neg (by omega)]
  rw [show ((x.toNat : Int) * 2 ^ min s.toNat IntKind.u64.bits) = ((x.toNat * 2 ^ min s.toNat 64 : Nat) : Int) from by simp [IntKind.bits], wrap_u64_nat]
  have : UInt64.ofNat (x.toNat * 2 ^ min s.toNat 64) = UInt64.ofNat (x.toNat * 2 ^ s.toNat) := by
    rcases Nat.le_total s.toNat 64 with h | h
    · rw [Nat.min_eq_left h]
    · rw [Nat.min_eq_right h]
      apply UInt64.toNat.inj
      rw [UInt64.toNat_ofNat', UInt64.toNat_ofNat']
      obtain ⟨j, hj⟩ : ∃ j, s.toNat = 64 + j := ⟨s.toNat - 64, by omega⟩
      rw [hj, Nat.pow_add, ← Nat.mul_assoc, Nat.mul_comm x.toNat, Nat.mul_assoc, Nat.mul_mod_right, Nat.mul_mod_right]
  rw [this]
theorem val_shr_u64 (x : UInt64) (s : Int) (hs : 0 ≤ s) (yk : IntKind) : Op.shift .shr .u64 (x.toNat : Int) yk s = pure (u64 (UInt64.ofNat (x.toNat / 2 ^ s.toNat))) := by
  simp only [Op.shift]
  rw [if_neg (by omega)]
  have hx := UInt64.toNat_lt x
  have key : x.toNat / 2 ^ min s.toNat 64 = x.toNat / 2 ^ s.toNat := by
    rcases Nat.le_total s.toNat 64 with h | h
    · rw [Nat.min_eq_left h]
    · rw [Nat.min_eq_right h, Nat.div_eq_of_lt hx, Nat.div_eq_of_lt (Nat.lt_of_lt_of_le hx (Nat.pow_le_pow_right (by omega) h))]
  have e : (x.toNat : Int).fdiv (2 ^ min s.toNat IntKind.u64.bits) = ((x.toNat / 2 ^ s.toNat : Nat) : Int) := by
    rw [← key, Int.fdiv_eq_ediv_of_nonneg _ (by exact Int.le_of_lt (Int.pow_pos (by omega)))]
    simp [IntKind.bits]
  have hlt : x.toNat / 2 ^ s.toNat < 2 ^ 64 := Nat.lt_of_le_of_lt (Nat.div_le_self _ _) hx
  rw [e]
  congr 2
  rw [UInt64.toNat_ofNat', Nat.mod_eq_of_lt hlt]

section
variable {P : Program} {n : Nat} {E : Slots} {w : World} {K : Slots → World → Prop} {ops : Array Oper} {rest : List Oper} {d : Tmp} {t ty : TypeId} {pos : String} {aft : Array Edge} {x y : Operand}

theorem TL.val {op : Op} (hd : Nat.blt d n = true) (v : Value) (hrun : ∀ a, Env n E a → (execOp a.eval ⟨some d, op, ty, pos, aft, none⟩).run P w = .ok (.value v) w)
    (h : TL P n ops rest ((d, v) :: E) w K) : TL P n ops (⟨some d, op, ty, pos, aft, none⟩ :: rest) E w K := TL.op rfl hd v w hrun h

theorem TL.move {v : Value} (hx : ev E x = some v) (hd : Nat.blt d n = true) (h : TL P n ops rest ((d, v) :: E) w K) : TL P n ops (⟨some d, .move x, ty, pos, aft, none⟩ :: rest) E w K :=
  TL.val hd v (fun a ha => by simp [execOp, ha.eval hx]) h
theorem TL.assign {v : Value} (hx : ev E x = some v) (hd : Nat.blt d n = true) (h : TL P n ops rest ((d, v) :: E) w K) : TL P n ops (⟨some d, .assign x, ty, pos, aft, none⟩ :: rest) E w K :=
  TL.val hd v (fun a ha => by simp [execOp, ha.eval hx]) h
theorem TL.pick {c : Operand} {b : Bool} {u v : Value} (hc : ev E c = some (.bool b)) (hx : ev E x = some u) (hy : ev E y = some v) (hd : Nat.blt d n = true) (h : TL P n ops rest ((d, if b then u else v) :: E) w K) : TL P n ops (⟨some d, .pick c x y, ty, pos, aft, none⟩ :: rest) E w K :=
  TL.val hd _ (fun a ha => by simp [execOp, ha.eval hc, ha.eval hx, ha.eval hy, asBool]) h
theorem TL.pickT {c : Operand} {b : Bool} {u : Value} (hc : ev E c = some (.bool b)) (hb : b = true) (hx : ev E x = some u) (hd : Nat.blt d n = true) (h : TL P n ops rest ((d, u) :: E) w K) : TL P n ops (⟨some d, .pick c x y, ty, pos, aft, none⟩ :: rest) E w K :=
  TL.val hd _ (fun a ha => by simp [execOp, ha.eval hc, ha.eval hx, asBool, hb]) h
theorem TL.pickF {c : Operand} {b : Bool} {v : Value} (hc : ev E c = some (.bool b)) (hb : b = false) (hy : ev E y = some v) (hd : Nat.blt d n = true) (h : TL P n ops rest ((d, v) :: E) w K) : TL P n ops (⟨some d, .pick c x y, ty, pos, aft, none⟩ :: rest) E w K :=
  TL.val hd _ (fun a ha => by simp [execOp, ha.eval hc, ha.eval hy, asBool, hb]) h
theorem TL.extract {vs : Array Value} {i : Nat} {v : Value} (hx : ev E x = some (.tuple vs)) (hi : vs[i]? = some v) (hd : Nat.blt d n = true) (h : TL P n ops rest ((d, v) :: E) w K) : TL P n ops (⟨some d, .extract x i, ty, pos, aft, none⟩ :: rest) E w K :=
  TL.val hd v (fun a ha => by simp [execOp, ha.eval hx, Instr.extract, hi]) h

/-! ### Two operands -/
theorem TL.bin {op : BinOp} {yt : TypeId} {vx vy v : Value} (hx : ev E x = some vx) (hy : ev E y = some vy) (hg : (eqGuard op t x y vx vy).run P w = .ok () w) (hb : (binOp op t vx vy).run P w = .ok v w) (hd : Nat.blt d n = true)
    (h : TL P n ops rest ((d, v) :: E) w K) : TL P n ops (⟨some d, .binOp op t x y yt, ty, pos, aft, none⟩ :: rest) E w K :=
  TL.val hd v (fun a ha => by simp only [execOp, ha.eval hx, ha.eval hy, Sem.run_bind, hg, hb, Result.andThen_ok, Sem.run_pure]) h

theorem guard_int (op : BinOp) (t : TypeId) (x y : Operand) (k k' : IntKind) (a b : Int) (w : World) : (eqGuard op t x y (.int k a) (.int k' b)).run P w = .ok () w := by
  unfold eqGuard; split <;> simp
theorem guard_bool (op : BinOp) (t : TypeId) (x y : Operand) (a b : Bool) (w : World) : (eqGuard op t x y (.bool a) (.bool b)).run P w = .ok () w := by
  unfold eqGuard; split <;> simp
theorem guard_string (op : BinOp) (t : TypeId) (x y : Operand) (a b : ByteArray) (w : World) : (eqGuard op t x y (.string a) (.string b)).run P w = .ok () w := by
  unfold eqGuard; split <;> simp
theorem guard_ptr (op : BinOp) (t : TypeId) (x y : Operand) (a b : Option Addr) (w : World) : (eqGuard op t x y (.pointer a) (.pointer b)).run P w = .ok () w := by
  unfold eqGuard; split <;> simp
theorem guard_slice (op : BinOp) (t : TypeId) (x y : Operand) (a b : Option Addr) (l c l' c' : Nat) (w : World) : (eqGuard op t x y (.slice a l c) (.slice b l' c')).run P w = .ok () w := by
  unfold eqGuard; split <;> simp
theorem TL.lss {yt : TypeId} {k : IntKind} {a b : Int} (hx : ev E x = some (.int k a)) (hy : ev E y = some (.int k b)) (hd : Nat.blt d n = true)
    (h : TL P n ops rest ((d, .bool (decide (a < b))) :: E) w K) : TL P n ops (⟨some d, .binOp .lss t x y yt, ty, pos, aft, none⟩ :: rest) E w K :=
  TL.bin hx hy (guard_int _ _ _ _ _ _ _ _ _) (by
    have e : binOp .lss t (.int k a) (.int k b) = pure (.bool (decide (a < b))) := by
      simp [binOp, Op.intCmp]
    rw [e, Sem.run_pure]) hd h
theorem TL.leq {yt : TypeId} {k : IntKind} {a b : Int} (hx : ev E x = some (.int k a)) (hy : ev E y = some (.int k b)) (hd : Nat.blt d n = true)
    (h : TL P n ops rest ((d, .bool (decide (a ≤ b))) :: E) w K) : TL P n ops (⟨some d, .binOp .leq t x y yt, ty, pos, aft, none⟩ :: rest) E w K :=
  TL.bin hx hy (guard_int _ _ _ _ _ _ _ _ _) (by
    have e : binOp .leq t (.int k a) (.int k b) = pure (.bool (decide (a ≤ b))) := by
      simp [binOp, Op.intCmp]
    rw [e, Sem.run_pure]) hd h
theorem TL.gtr {yt : TypeId} {k : IntKind} {a b : Int} (hx : ev E x = some (.int k a)) (hy : ev E y = some (.int k b)) (hd : Nat.blt d n = true)
    (h : TL P n ops rest ((d, .bool (decide (b < a))) :: E) w K) : TL P n ops (⟨some d, .binOp .gtr t x y yt, ty, pos, aft, none⟩ :: rest) E w K :=
  TL.bin hx hy (guard_int _ _ _ _ _ _ _ _ _) (by
    have e : binOp .gtr t (.int k a) (.int k b) = pure (.bool (decide (b < a))) := by
      simp [binOp, Op.intCmp]
    rw [e, Sem.run_pure]) hd h
theorem TL.geq {yt : TypeId} {k : IntKind} {a b : Int} (hx : ev E x = some (.int k a)) (hy : ev E y = some (.int k b)) (hd : Nat.blt d n = true)
    (h : TL P n ops rest ((d, .bool (decide (b ≤ a))) :: E) w K) : TL P n ops (⟨some d, .binOp .geq t x y yt, ty, pos, aft, none⟩ :: rest) E w K :=
  TL.bin hx hy (guard_int _ _ _ _ _ _ _ _ _) (by
    have e : binOp .geq t (.int k a) (.int k b) = pure (.bool (decide (b ≤ a))) := by
      simp [binOp, Op.intCmp]
    rw [e, Sem.run_pure]) hd h
theorem TL.eql {yt : TypeId} {k : IntKind} {a b : Int} (hx : ev E x = some (.int k a)) (hy : ev E y = some (.int k b)) (hd : Nat.blt d n = true)
    (h : TL P n ops rest ((d, .bool (decide (a = b))) :: E) w K) : TL P n ops (⟨some d, .binOp .eql t x y yt, ty, pos, aft, none⟩ :: rest) E w K :=
  TL.bin hx hy (guard_int _ _ _ _ _ _ _ _ _) (by
    have e : binOp .eql t (.int k a) (.int k b) = pure (.bool (decide (a = b))) := by
      simp only [binOp, Op.intCmp, ne_eq, not_true_eq_false, if_false]
      have e1 : (a == b) = decide (a = b) := by (by_cases h : a = b <;> simp [h])
      have e2 : (a != b) = decide (¬ a = b) := by (by_cases h : a = b <;> simp [h])
      rw [e1]
    rw [e, Sem.run_pure]) hd h
theorem TL.neq {yt : TypeId} {k : IntKind} {a b : Int} (hx : ev E x = some (.int k a)) (hy : ev E y = some (.int k b)) (hd : Nat.blt d n = true)
    (h : TL P n ops rest ((d, .bool (decide (¬ a = b))) :: E) w K) : TL P n ops (⟨some d, .binOp .neq t x y yt, ty, pos, aft, none⟩ :: rest) E w K :=
  TL.bin hx hy (guard_int _ _ _ _ _ _ _ _ _) (by
    have e : binOp .neq t (.int k a) (.int k b) = pure (.bool (decide (¬ a = b))) := by
      simp only [binOp, Op.intCmp, ne_eq, not_true_eq_false, if_false]
      have e1 : (a == b) = decide (a = b) := by (by_cases h : a = b <;> simp [h])
      have e2 : (a != b) = decide (¬ a = b) := by (by_cases h : a = b <;> simp [h])
      rw [e2]
    rw [e, Sem.run_pure]) hd h

theorem TL.arith_i64 {op : BinOp} {yt : TypeId} {a b : Int} {r : Int} (hx : ev E x = some (.int .i64 a)) (hy : ev E y = some (.int .i64 b)) (ho : (op = .add ∧ r = a + b) ∨ (op = .sub ∧ r = a - b) ∨ (op = .mul ∧ r = a * b))
    (h1 : -9223372036854775808 ≤ r) (h2 : r ≤ 9223372036854775807) (hd : Nat.blt d n = true)
    (h : TL P n ops rest ((d, .int .i64 r) :: E) w K) : TL P n ops (⟨some d, .binOp op t x y yt, ty, pos, aft, none⟩ :: rest) E w K := by
  refine TL.bin hx hy (guard_int _ _ _ _ _ _ _ _ _) ?_ hd h
  rcases ho with ⟨rfl, rfl⟩ | ⟨rfl, rfl⟩ | ⟨rfl, rfl⟩ <;> simp [binOp, Op.intArith, wrap_i64 h1 h2]
theorem TL.add_i64 {yt : TypeId} {a b : Int} (hx : ev E x = some (.int .i64 a)) (hy : ev E y = some (.int .i64 b)) (h1 : -9223372036854775808 ≤ a + b) (h2 : a + b ≤ 9223372036854775807) (hd : Nat.blt d n = true)
    (h : TL P n ops rest ((d, .int .i64 (a + b)) :: E) w K) : TL P n ops (⟨some d, .binOp .add t x y yt, ty, pos, aft, none⟩ :: rest) E w K := TL.arith_i64 hx hy (.inl ⟨rfl, rfl⟩) h1 h2 hd h
theorem TL.sub_i64 {yt : TypeId} {a b : Int} (hx : ev E x = some (.int .i64 a)) (hy : ev E y = some (.int .i64 b)) (h1 : -9223372036854775808 ≤ a - b) (h2 : a - b ≤ 9223372036854775807) (hd : Nat.blt d n = true)
    (h : TL P n ops rest ((d, .int .i64 (a - b)) :: E) w K) : TL P n ops (⟨some d, .binOp .sub t x y yt, ty, pos, aft, none⟩ :: rest) E w K := TL.arith_i64 hx hy (.inr (.inl ⟨rfl, rfl⟩)) h1 h2 hd h
theorem TL.mul_i64 {yt : TypeId} {a b : Int} (hx : ev E x = some (.int .i64 a)) (hy : ev E y = some (.int .i64 b)) (h1 : -9223372036854775808 ≤ a * b) (h2 : a * b ≤ 9223372036854775807) (hd : Nat.blt d n = true)
    (h : TL P n ops rest ((d, .int .i64 (a * b)) :: E) w K) : TL P n ops (⟨some d, .binOp .mul t x y yt, ty, pos, aft, none⟩ :: rest) E w K := TL.arith_i64 hx hy (.inr (.inr ⟨rfl, rfl⟩)) h1 h2 hd h
/-- '/' and '%' of an int that is not negative by one that is greater than nought. -/
theorem TL.quo_i64 {yt : TypeId} {a b : Int} (hx : ev E x = some (.int .i64 a)) (hy : ev E y = some (.int .i64 b)) (ha : 0 ≤ a) (ha' : a ≤ 9223372036854775807) (hb : 0 < b) (hd : Nat.blt d n = true)
    (h : TL P n ops rest ((d, .int .i64 (a / b)) :: E) w K) : TL P n ops (⟨some d, .binOp .quo t x y yt, ty, pos, aft, none⟩ :: rest) E w K := by
  refine TL.bin hx hy (guard_int _ _ _ _ _ _ _ _ _) ?_ hd h
  have h1 : 0 ≤ a / b := Int.ediv_nonneg ha (by omega)
  have h2 : a / b ≤ a := Int.ediv_le_self _ ha
  have e : a.tdiv b = a / b := Int.tdiv_eq_ediv_of_nonneg ha
  simp [binOp, Op.intDiv, show ¬ b = 0 by omega, e, wrap_i64 (show -9223372036854775808 ≤ a / b by omega) (show a / b ≤ 9223372036854775807 by omega)]
theorem TL.rem_i64 {yt : TypeId} {a b : Int} (hx : ev E x = some (.int .i64 a)) (hy : ev E y = some (.int .i64 b)) (ha : 0 ≤ a) (hb : 0 < b) (hd : Nat.blt d n = true)
    (h : TL P n ops rest ((d, .int .i64 (a % b)) :: E) w K) : TL P n ops (⟨some d, .binOp .rem t x y yt, ty, pos, aft, none⟩ :: rest) E w K := by
  refine TL.bin hx hy (guard_int _ _ _ _ _ _ _ _ _) ?_ hd h
  have e : a.tmod b = a % b := Int.tmod_eq_emod_of_nonneg ha
  simp [binOp, Op.intDiv, show ¬ b = 0 by omega, e]
theorem TL.neg_i64 {a : Int} (hx : ev E x = some (.int .i64 a)) (h1 : -9223372036854775808 ≤ -a) (h2 : -a ≤ 9223372036854775807) (hd : Nat.blt d n = true)
    (h : TL P n ops rest ((d, .int .i64 (-a)) :: E) w K) : TL P n ops (⟨some d, .unOp .neg t x, ty, pos, aft, none⟩ :: rest) E w K :=
  TL.val hd _ (fun a' ha => by simp [execOp, ha.eval hx, Op.unary, Op.intArith, wrap_i64 h1 h2]) h
theorem TL.not {b : Bool} (hx : ev E x = some (.bool b)) (hd : Nat.blt d n = true)
    (h : TL P n ops rest ((d, .bool (!b)) :: E) w K) : TL P n ops (⟨some d, .unOp .not t x, ty, pos, aft, none⟩ :: rest) E w K :=
  TL.val hd _ (fun a' ha => by simp [execOp, ha.eval hx, Op.unary]) h
theorem TL.notP {p : Prop} [Decidable p] (hx : ev E x = some (.bool (decide p))) (hd : Nat.blt d n = true)
    (h : TL P n ops rest ((d, .bool (decide (¬ p))) :: E) w K) : TL P n ops (⟨some d, .unOp .not t x, ty, pos, aft, none⟩ :: rest) E w K :=
  TL.val hd _ (fun a' ha => by simp [execOp, ha.eval hx, Op.unary]) h
theorem TL.eqlBool {yt : TypeId} {a b : Bool} (ht : P.underlying t = some .bool) (hx : ev E x = some (.bool a)) (hy : ev E y = some (.bool b)) (hd : Nat.blt d n = true)
    (h : TL P n ops rest ((d, .bool (decide (a = b))) :: E) w K) : TL P n ops (⟨some d, .binOp .eql t x y yt, ty, pos, aft, none⟩ :: rest) E w K := by
  refine TL.bin hx hy (guard_bool _ _ _ _ _ _ _) ?_ hd h
  have := run_equalIn_bool' (P := P) w 9999 t a b ht
  have e : (a == b) = decide (a = b) := by cases a <;> cases b <;> rfl
  simp [binOp, Op.equal, Op.maxDepth, this, e]
theorem TL.neqBool {yt : TypeId} {a b : Bool} (ht : P.underlying t = some .bool) (hx : ev E x = some (.bool a)) (hy : ev E y = some (.bool b)) (hd : Nat.blt d n = true)
    (h : TL P n ops rest ((d, .bool (decide (¬ a = b))) :: E) w K) : TL P n ops (⟨some d, .binOp .neq t x y yt, ty, pos, aft, none⟩ :: rest) E w K := by
  refine TL.bin hx hy (guard_bool _ _ _ _ _ _ _) ?_ hd h
  have := run_equalIn_bool' (P := P) w 9999 t a b ht
  have e : (!(a == b)) = decide (¬ a = b) := by cases a <;> cases b <;> rfl
  simp [binOp, Op.equal, Op.maxDepth, this, e]
theorem TL.and_u8 {yt : TypeId} {a b : UInt8} (hx : ev E x = some (u8 a)) (hy : ev E y = some (u8 b)) (hd : Nat.blt d n = true)
    (h : TL P n ops rest ((d, u8 (a &&& b)) :: E) w K) : TL P n ops (⟨some d, .binOp .and t x y yt, ty, pos, aft, none⟩ :: rest) E w K :=
  TL.bin hx hy (guard_int _ _ _ _ _ _ _ _ _) (by simp [binOp, bits_and_u8]) hd h
theorem TL.or_u8 {yt : TypeId} {a b : UInt8} (hx : ev E x = some (u8 a)) (hy : ev E y = some (u8 b)) (hd : Nat.blt d n = true)
    (h : TL P n ops rest ((d, u8 (a ||| b)) :: E) w K) : TL P n ops (⟨some d, .binOp .or t x y yt, ty, pos, aft, none⟩ :: rest) E w K :=
  TL.bin hx hy (guard_int _ _ _ _ _ _ _ _ _) (by simp [binOp, bits_or_u8]) hd h
theorem TL.xor_u8 {yt : TypeId} {a b : UInt8} (hx : ev E x = some (u8 a)) (hy : ev E y = some (u8 b)) (hd : Nat.blt d n = true)
    (h : TL P n ops rest ((d, u8 (a ^^^ b)) :: E) w K) : TL P n ops (⟨some d, .binOp .xor t x y yt, ty, pos, aft, none⟩ :: rest) E w K :=
  TL.bin hx hy (guard_int _ _ _ _ _ _ _ _ _) (by simp [binOp, bits_xor_u8]) hd h
theorem TL.add_u8 {yt : TypeId} {a b : UInt8} (hx : ev E x = some (u8 a)) (hy : ev E y = some (u8 b)) (hd : Nat.blt d n = true)
    (h : TL P n ops rest ((d, u8 (a + b)) :: E) w K) : TL P n ops (⟨some d, .binOp .add t x y yt, ty, pos, aft, none⟩ :: rest) E w K :=
  TL.bin hx hy (guard_int _ _ _ _ _ _ _ _ _) (by simp [binOp, arith_add_u8]) hd h
theorem TL.sub_u8 {yt : TypeId} {a b : UInt8} (hx : ev E x = some (u8 a)) (hy : ev E y = some (u8 b)) (hd : Nat.blt d n = true)
    (h : TL P n ops rest ((d, u8 (a - b)) :: E) w K) : TL P n ops (⟨some d, .binOp .sub t x y yt, ty, pos, aft, none⟩ :: rest) E w K :=
  TL.bin hx hy (guard_int _ _ _ _ _ _ _ _ _) (by simp [binOp, arith_sub_u8]) hd h
theorem TL.mul_u8 {yt : TypeId} {a b : UInt8} (hx : ev E x = some (u8 a)) (hy : ev E y = some (u8 b)) (hd : Nat.blt d n = true)
    (h : TL P n ops rest ((d, u8 (a * b)) :: E) w K) : TL P n ops (⟨some d, .binOp .mul t x y yt, ty, pos, aft, none⟩ :: rest) E w K :=
  TL.bin hx hy (guard_int _ _ _ _ _ _ _ _ _) (by simp [binOp, arith_mul_u8]) hd h
theorem TL.quo_u8 {yt : TypeId} {a b : UInt8} (hx : ev E x = some (u8 a)) (hy : ev E y = some (u8 b)) (hb : b.toNat ≠ 0) (hd : Nat.blt d n = true)
    (h : TL P n ops rest ((d, u8 (a / b)) :: E) w K) : TL P n ops (⟨some d, .binOp .quo t x y yt, ty, pos, aft, none⟩ :: rest) E w K :=
  TL.bin hx hy (guard_int _ _ _ _ _ _ _ _ _) (by simp [binOp, div_quo_u8 a b hb]) hd h
theorem TL.rem_u8 {yt : TypeId} {a b : UInt8} (hx : ev E x = some (u8 a)) (hy : ev E y = some (u8 b)) (hb : b.toNat ≠ 0) (hd : Nat.blt d n = true)
    (h : TL P n ops rest ((d, u8 (a % b)) :: E) w K) : TL P n ops (⟨some d, .binOp .rem t x y yt, ty, pos, aft, none⟩ :: rest) E w K :=
  TL.bin hx hy (guard_int _ _ _ _ _ _ _ _ _) (by simp [binOp, div_rem_u8 a b hb]) hd h
theorem TL.shl_u8 {yt : TypeId} {a : UInt8} {yk : IntKind} {s : Int} (hx : ev E x = some (u8 a)) (hy : ev E y = some (.int yk s)) (hs : 0 ≤ s) (hd : Nat.blt d n = true)
    (h : TL P n ops rest ((d, u8 (UInt8.ofNat (a.toNat * 2 ^ s.toNat))) :: E) w K) : TL P n ops (⟨some d, .binOp .shl t x y yt, ty, pos, aft, none⟩ :: rest) E w K :=
  TL.bin hx hy (guard_int _ _ _ _ _ _ _ _ _) (by simp only [binOp, val_shl_u8 a s hs, Sem.run_pure]) hd h
theorem TL.shr_u8 {yt : TypeId} {a : UInt8} {yk : IntKind} {s : Int} (hx : ev E x = some (u8 a)) (hy : ev E y = some (.int yk s)) (hs : 0 ≤ s) (hd : Nat.blt d n = true)
    (h : TL P n ops rest ((d, u8 (UInt8.ofNat (a.toNat / 2 ^ s.toNat))) :: E) w K) : TL P n ops (⟨some d, .binOp .shr t x y yt, ty, pos, aft, none⟩ :: rest) E w K :=
  TL.bin hx hy (guard_int _ _ _ _ _ _ _ _ _) (by simp only [binOp, val_shr_u8 a s hs, Sem.run_pure]) hd h
theorem TL.compl_u8 {a : UInt8} (hx : ev E x = some (u8 a)) (hd : Nat.blt d n = true)
    (h : TL P n ops rest ((d, u8 (~~~ a)) :: E) w K) : TL P n ops (⟨some d, .unOp .xor t x, ty, pos, aft, none⟩ :: rest) E w K :=
  TL.val hd _ (fun a' ha => by simp only [execOp, ha.eval hx, bits_not_u8]; rfl) h
theorem TL.and_u32 {yt : TypeId} {a b : UInt32} (hx : ev E x = some (u32 a)) (hy : ev E y = some (u32 b)) (hd : Nat.blt d n = true)
    (h : TL P n ops rest ((d, u32 (a &&& b)) :: E) w K) : TL P n ops (⟨some d, .binOp .and t x y yt, ty, pos, aft, none⟩ :: rest) E w K :=
  TL.bin hx hy (guard_int _ _ _ _ _ _ _ _ _) (by simp [binOp, bits_and_u32]) hd h
theorem TL.or_u32 {yt : TypeId} {a b : UInt32} (hx : ev E x = some (u32 a)) (hy : ev E y = some (u32 b)) (hd : Nat.blt d n = true)
    (h : TL P n ops rest ((d, u32 (a ||| b)) :: E) w K) : TL P n ops (⟨some d, .binOp .or t x y yt, ty, pos, aft, none⟩ :: rest) E w K :=
  TL.bin hx hy (guard_int _ _ _ _ _ _ _ _ _) (by simp [binOp, bits_or_u32]) hd h
theorem TL.xor_u32 {yt : TypeId} {a b : UInt32} (hx : ev E x = some (u32 a)) (hy : ev E y = some (u32 b)) (hd : Nat.blt d n = true)
    (h : TL P n ops rest ((d, u32 (a ^^^ b)) :: E) w K) : TL P n ops (⟨some d, .binOp .xor t x y yt, ty, pos, aft, none⟩ :: rest) E w K :=
  TL.bin hx hy (guard_int _ _ _ _ _ _ _ _ _) (by simp [binOp, bits_xor_u32]) hd h
theorem TL.add_u32 {yt : TypeId} {a b : UInt32} (hx : ev E x = some (u32 a)) (hy : ev E y = some (u32 b)) (hd : Nat.blt d n = true)
    (h : TL P n ops rest ((d, u32 (a + b)) :: E) w K) : TL P n ops (⟨some d, .binOp .add t x y yt, ty, pos, aft, none⟩ :: rest) E w K :=
  TL.bin hx hy (guard_int _ _ _ _ _ _ _ _ _) (by simp [binOp, arith_add_u32]) hd h
theorem TL.sub_u32 {yt : TypeId} {a b : UInt32} (hx : ev E x = some (u32 a)) (hy : ev E y = some (u32 b)) (hd : Nat.blt d n = true)
    (h : TL P n ops rest ((d, u32 (a - b)) :: E) w K) : TL P n ops (⟨some d, .binOp .sub t x y yt, ty, pos, aft, none⟩ :: rest) E w K :=
  TL.bin hx hy (guard_int _ _ _ _ _ _ _ _ _) (by simp [binOp, arith_sub_u32]) hd h
theorem TL.mul_u32 {yt : TypeId} {a b : UInt32} (hx : ev E x = some (u32 a)) (hy : ev E y = some (u32 b)) (hd : Nat.blt d n = true)
    (h : TL P n ops rest ((d, u32 (a * b)) :: E) w K) : TL P n ops (⟨some d, .binOp .mul t x y yt, ty, pos, aft, none⟩ :: rest) E w K :=
  TL.bin hx hy (guard_int _ _ _ _ _ _ _ _ _) (by simp [binOp, arith_mul_u32]) hd h
theorem TL.quo_u32 {yt : TypeId} {a b : UInt32} (hx : ev E x = some (u32 a)) (hy : ev E y = some (u32 b)) (hb : b.toNat ≠ 0) (hd : Nat.blt d n = true)
    (h : TL P n ops rest ((d, u32 (a / b)) :: E) w K) : TL P n ops (⟨some d, .binOp .quo t x y yt, ty, pos, aft, none⟩ :: rest) E w K :=
  TL.bin hx hy (guard_int _ _ _ _ _ _ _ _ _) (by simp [binOp, div_quo_u32 a b hb]) hd h
theorem TL.rem_u32 {yt : TypeId} {a b : UInt32} (hx : ev E x = some (u32 a)) (hy : ev E y = some (u32 b)) (hb : b.toNat ≠ 0) (hd : Nat.blt d n = true)
    (h : TL P n ops rest ((d, u32 (a % b)) :: E) w K) : TL P n ops (⟨some d, .binOp .rem t x y yt, ty, pos, aft, none⟩ :: rest) E w K :=
  TL.bin hx hy (guard_int _ _ _ _ _ _ _ _ _) (by simp [binOp, div_rem_u32 a b hb]) hd h
theorem TL.shl_u32 {yt : TypeId} {a : UInt32} {yk : IntKind} {s : Int} (hx : ev E x = some (u32 a)) (hy : ev E y = some (.int yk s)) (hs : 0 ≤ s) (hd : Nat.blt d n = true)
    (h : TL P n ops rest ((d, u32 (UInt32.ofNat (a.toNat * 2 ^ s.toNat))) :: E) w K) : TL P n ops (⟨some d, .binOp .shl t x y yt, ty, pos, aft, none⟩ :: rest) E w K :=
  TL.bin hx hy (guard_int _ _ _ _ _ _ _ _ _) (by simp only [binOp, val_shl_u32 a s hs, Sem.run_pure]) hd h
theorem TL.shr_u32 {yt : TypeId} {a : UInt32} {yk : IntKind} {s : Int} (hx : ev E x = some (u32 a)) (hy : ev E y = some (.int yk s)) (hs : 0 ≤ s) (hd : Nat.blt d n = true)
    (h : TL P n ops rest ((d, u32 (UInt32.ofNat (a.toNat / 2 ^ s.toNat))) :: E) w K) : TL P n ops (⟨some d, .binOp .shr t x y yt, ty, pos, aft, none⟩ :: rest) E w K :=
  TL.bin hx hy (guard_int _ _ _ _ _ _ _ _ _) (by simp only [binOp, val_shr_u32 a s hs, Sem.run_pure]) hd h
theorem TL.compl_u32 {a : UInt32} (hx : ev E x = some (u32 a)) (hd : Nat.blt d n = true)
    (h : TL P n ops rest ((d, u32 (~~~ a)) :: E) w K) : TL P n ops (⟨some d, .unOp .xor t x, ty, pos, aft, none⟩ :: rest) E w K :=
  TL.val hd _ (fun a' ha => by simp only [execOp, ha.eval hx, bits_not_u32]; rfl) h
theorem TL.and_u64 {yt : TypeId} {a b : UInt64} (hx : ev E x = some (u64 a)) (hy : ev E y = some (u64 b)) (hd : Nat.blt d n = true)
    (h : TL P n ops rest ((d, u64 (a &&& b)) :: E) w K) : TL P n ops (⟨some d, .binOp .and t x y yt, ty, pos, aft, none⟩ :: rest) E w K :=
  TL.bin hx hy (guard_int _ _ _ _ _ _ _ _ _) (by simp [binOp, bits_and_u64]) hd h
theorem TL.or_u64 {yt : TypeId} {a b : UInt64} (hx : ev E x = some (u64 a)) (hy : ev E y = some (u64 b)) (hd : Nat.blt d n = true)
    (h : TL P n ops rest ((d, u64 (a ||| b)) :: E) w K) : TL P n ops (⟨some d, .binOp .or t x y yt, ty, pos, aft, none⟩ :: rest) E w K :=
  TL.bin hx hy (guard_int _ _ _ _ _ _ _ _ _) (by simp [binOp, bits_or_u64]) hd h
theorem TL.xor_u64 {yt : TypeId} {a b : UInt64} (hx : ev E x = some (u64 a)) (hy : ev E y = some (u64 b)) (hd : Nat.blt d n = true)
    (h : TL P n ops rest ((d, u64 (a ^^^ b)) :: E) w K) : TL P n ops (⟨some d, .binOp .xor t x y yt, ty, pos, aft, none⟩ :: rest) E w K :=
  TL.bin hx hy (guard_int _ _ _ _ _ _ _ _ _) (by simp [binOp, bits_xor_u64]) hd h
theorem TL.add_u64 {yt : TypeId} {a b : UInt64} (hx : ev E x = some (u64 a)) (hy : ev E y = some (u64 b)) (hd : Nat.blt d n = true)
    (h : TL P n ops rest ((d, u64 (a + b)) :: E) w K) : TL P n ops (⟨some d, .binOp .add t x y yt, ty, pos, aft, none⟩ :: rest) E w K :=
  TL.bin hx hy (guard_int _ _ _ _ _ _ _ _ _) (by simp [binOp, arith_add_u64]) hd h
theorem TL.sub_u64 {yt : TypeId} {a b : UInt64} (hx : ev E x = some (u64 a)) (hy : ev E y = some (u64 b)) (hd : Nat.blt d n = true)
    (h : TL P n ops rest ((d, u64 (a - b)) :: E) w K) : TL P n ops (⟨some d, .binOp .sub t x y yt, ty, pos, aft, none⟩ :: rest) E w K :=
  TL.bin hx hy (guard_int _ _ _ _ _ _ _ _ _) (by simp [binOp, arith_sub_u64]) hd h
theorem TL.mul_u64 {yt : TypeId} {a b : UInt64} (hx : ev E x = some (u64 a)) (hy : ev E y = some (u64 b)) (hd : Nat.blt d n = true)
    (h : TL P n ops rest ((d, u64 (a * b)) :: E) w K) : TL P n ops (⟨some d, .binOp .mul t x y yt, ty, pos, aft, none⟩ :: rest) E w K :=
  TL.bin hx hy (guard_int _ _ _ _ _ _ _ _ _) (by simp [binOp, arith_mul_u64]) hd h
theorem TL.quo_u64 {yt : TypeId} {a b : UInt64} (hx : ev E x = some (u64 a)) (hy : ev E y = some (u64 b)) (hb : b.toNat ≠ 0) (hd : Nat.blt d n = true)
    (h : TL P n ops rest ((d, u64 (a / b)) :: E) w K) : TL P n ops (⟨some d, .binOp .quo t x y yt, ty, pos, aft, none⟩ :: rest) E w K :=
  TL.bin hx hy (guard_int _ _ _ _ _ _ _ _ _) (by simp [binOp, div_quo_u64 a b hb]) hd h
theorem TL.rem_u64 {yt : TypeId} {a b : UInt64} (hx : ev E x = some (u64 a)) (hy : ev E y = some (u64 b)) (hb : b.toNat ≠ 0) (hd : Nat.blt d n = true)
    (h : TL P n ops rest ((d, u64 (a % b)) :: E) w K) : TL P n ops (⟨some d, .binOp .rem t x y yt, ty, pos, aft, none⟩ :: rest) E w K :=
  TL.bin hx hy (guard_int _ _ _ _ _ _ _ _ _) (by simp [binOp, div_rem_u64 a b hb]) hd h
theorem TL.shl_u64 {yt : TypeId} {a : UInt64} {yk : IntKind} {s : Int} (hx : ev E x = some (u64 a)) (hy : ev E y = some (.int yk s)) (hs : 0 ≤ s) (hd : Nat.blt d n = true)
    (h : TL P n ops rest ((d, u64 (UInt64.ofNat (a.toNat * 2 ^ s.toNat))) :: E) w K) : TL P n ops (⟨some d, .binOp .shl t x y yt, ty, pos, aft, none⟩ :: rest) E w K :=
  TL.bin hx hy (guard_int _ _ _ _ _ _ _ _ _) (by simp only [binOp, val_shl_u64 a s hs, Sem.run_pure]) hd h
theorem TL.shr_u64 {yt : TypeId} {a : UInt64} {yk : IntKind} {s : Int} (hx : ev E x = some (u64 a)) (hy : ev E y = some (.int yk s)) (hs : 0 ≤ s) (hd : Nat.blt d n = true)
    (h : TL P n ops rest ((d, u64 (UInt64.ofNat (a.toNat / 2 ^ s.toNat))) :: E) w K) : TL P n ops (⟨some d, .binOp .shr t x y yt, ty, pos, aft, none⟩ :: rest) E w K :=
  TL.bin hx hy (guard_int _ _ _ _ _ _ _ _ _) (by simp only [binOp, val_shr_u64 a s hs, Sem.run_pure]) hd h
theorem TL.compl_u64 {a : UInt64} (hx : ev E x = some (u64 a)) (hd : Nat.blt d n = true)
    (h : TL P n ops rest ((d, u64 (~~~ a)) :: E) w K) : TL P n ops (⟨some d, .unOp .xor t x, ty, pos, aft, none⟩ :: rest) E w K :=
  TL.val hd _ (fun a' ha => by simp only [execOp, ha.eval hx, bits_not_u64]; rfl) h

/-! ### Conversions -/
theorem TL.conv {s : TypeId} {k : IntKind} {k' : IntKind} {a r : Int} {ds : TypeDesc} (hs : P.underlying s = some ds) (ht : P.underlying t = some (.int k)) (hx : ev E x = some (.int k' a)) (hr : k.wrap a = r) (hd : Nat.blt d n = true)
    (h : TL P n ops rest ((d, .int k r) :: E) w K) : TL P n ops (⟨some d, .convert s t x, ty, pos, aft, none⟩ :: rest) E w K :=
  TL.val hd _ (fun a' ha => by simp [execOp, ha.eval hx, convert, run_underlying hs, run_underlying ht, Conv.intToInt, hr]) h
/-- To u8, from a number that is not negative. -/
theorem TL.conv_u8 {s : TypeId} {k' : IntKind} {m : Nat} {ds : TypeDesc} (hs : P.underlying s = some ds) (ht : P.underlying t = some (.int .u8)) (hx : ev E x = some (.int k' (m : Int))) (hd : Nat.blt d n = true)
    (h : TL P n ops rest ((d, u8 (UInt8.ofNat m)) :: E) w K) : TL P n ops (⟨some d, .convert s t x, ty, pos, aft, none⟩ :: rest) E w K :=
  TL.conv hs ht hx (wrap_u8_nat m) hd h
/-- To u8, from an int of whatever sign. -/
theorem TL.convI_u8 {s : TypeId} {k' : IntKind} {a : Int} {ds : TypeDesc} (hs : P.underlying s = some ds) (ht : P.underlying t = some (.int .u8)) (hx : ev E x = some (.int k' a)) (hd : Nat.blt d n = true)
    (h : TL P n ops rest ((d, u8 (UInt8.ofNat (a % 256).toNat)) :: E) w K) : TL P n ops (⟨some d, .convert s t x, ty, pos, aft, none⟩ :: rest) E w K :=
  TL.conv hs ht hx (by rw [wrap_u8, UInt8.toNat_ofNat']; omega) hd h
/-- To u32, from a number that is not negative. -/
theorem TL.conv_u32 {s : TypeId} {k' : IntKind} {m : Nat} {ds : TypeDesc} (hs : P.underlying s = some ds) (ht : P.underlying t = some (.int .u32)) (hx : ev E x = some (.int k' (m : Int))) (hd : Nat.blt d n = true)
    (h : TL P n ops rest ((d, u32 (UInt32.ofNat m)) :: E) w K) : TL P n ops (⟨some d, .convert s t x, ty, pos, aft, none⟩ :: rest) E w K :=
  TL.conv hs ht hx (wrap_u32_nat m) hd h
/-- To u32, from an int of whatever sign. -/
theorem TL.convI_u32 {s : TypeId} {k' : IntKind} {a : Int} {ds : TypeDesc} (hs : P.underlying s = some ds) (ht : P.underlying t = some (.int .u32)) (hx : ev E x = some (.int k' a)) (hd : Nat.blt d n = true)
    (h : TL P n ops rest ((d, u32 (UInt32.ofNat (a % 4294967296).toNat)) :: E) w K) : TL P n ops (⟨some d, .convert s t x, ty, pos, aft, none⟩ :: rest) E w K :=
  TL.conv hs ht hx (by rw [wrap_u32, UInt32.toNat_ofNat']; omega) hd h
/-- To u64, from a number that is not negative. -/
theorem TL.conv_u64 {s : TypeId} {k' : IntKind} {m : Nat} {ds : TypeDesc} (hs : P.underlying s = some ds) (ht : P.underlying t = some (.int .u64)) (hx : ev E x = some (.int k' (m : Int))) (hd : Nat.blt d n = true)
    (h : TL P n ops rest ((d, u64 (UInt64.ofNat m)) :: E) w K) : TL P n ops (⟨some d, .convert s t x, ty, pos, aft, none⟩ :: rest) E w K :=
  TL.conv hs ht hx (wrap_u64_nat m) hd h
/-- To u64, from an int of whatever sign. -/
theorem TL.convI_u64 {s : TypeId} {k' : IntKind} {a : Int} {ds : TypeDesc} (hs : P.underlying s = some ds) (ht : P.underlying t = some (.int .u64)) (hx : ev E x = some (.int k' a)) (hd : Nat.blt d n = true)
    (h : TL P n ops rest ((d, u64 (UInt64.ofNat (a % 18446744073709551616).toNat)) :: E) w K) : TL P n ops (⟨some d, .convert s t x, ty, pos, aft, none⟩ :: rest) E w K :=
  TL.conv hs ht hx (by rw [wrap_u64, UInt64.toNat_ofNat']; omega) hd h
/-- To int, where it fits. -/
theorem TL.conv_i64 {s : TypeId} {k' : IntKind} {a : Int} {ds : TypeDesc} (hs : P.underlying s = some ds) (ht : P.underlying t = some (.int .i64)) (hx : ev E x = some (.int k' a)) (h1 : -9223372036854775808 ≤ a) (h2 : a ≤ 9223372036854775807) (hd : Nat.blt d n = true)
    (h : TL P n ops rest ((d, .int .i64 a) :: E) w K) : TL P n ops (⟨some d, .convert s t x, ty, pos, aft, none⟩ :: rest) E w K :=
  TL.conv hs ht hx (wrap_i64 h1 h2) hd h

/-! ### Strings -/
theorem size_str (l : List UInt8) : (⟨l.toArray⟩ : ByteArray).size = l.length := by simp [ByteArray.size]
theorem run_lenStr {l : List UInt8} (ht : P.underlying t = some .string) : (Builtin.len_ #[t] ty #[str l]).run P w = .ok (.int .i64 (l.length : Int)) w := by
  have := size_str l
  simp only [Builtin.len_, List.getElem?_toArray, List.getElem?_cons_zero, Sem.run_bind, run_underlying ht, Result.andThen_ok, Sem.run_pure, goInt, this]
theorem run_lenSlice {e : TypeId} {a : Option Addr} {l c : Nat} (ht : P.underlying t = some (.slice e)) : (Builtin.len_ #[t] ty #[.slice a l c]).run P w = .ok (.int .i64 (l : Int)) w := by
  simp [Builtin.len_, run_underlying ht, goInt]
theorem run_capSlice {e : TypeId} {a : Option Addr} {l c : Nat} (ht : P.underlying t = some (.slice e)) : (Builtin.cap_ #[t] ty #[.slice a l c]).run P w = .ok (.int .i64 (c : Int)) w := by
  simp [Builtin.cap_, run_underlying ht, goInt]
theorem TL.lenStr {l : List UInt8} (ht : P.underlying t = some .string) (hx : ev E x = some (str l)) (hd : Nat.blt d n = true)
    (h : TL P n ops rest ((d, .int .i64 (l.length : Int)) :: E) w K) : TL P n ops (⟨some d, .call { callee := .builtin .len, args := #[x], argTypes := #[t] }, ty, pos, aft, none⟩ :: rest) E w K :=
  TL.val hd _ (fun a' ha => by simp only [execOp, resolve, invoke, builtin, Sem.run_bind, Sem.run_pure, Result.andThen_ok, List.map_toArray, List.map_cons, List.map_nil, ha.eval hx, run_lenStr ht]) h
theorem TL.lenSlice {e : TypeId} {a : Option Addr} {l c : Nat} (ht : P.underlying t = some (.slice e)) (hx : ev E x = some (.slice a l c)) (hd : Nat.blt d n = true)
    (h : TL P n ops rest ((d, .int .i64 (l : Int)) :: E) w K) : TL P n ops (⟨some d, .call { callee := .builtin .len, args := #[x], argTypes := #[t] }, ty, pos, aft, none⟩ :: rest) E w K :=
  TL.val hd _ (fun a' ha => by simp only [execOp, resolve, invoke, builtin, Sem.run_bind, Sem.run_pure, Result.andThen_ok, List.map_toArray, List.map_cons, List.map_nil, ha.eval hx, run_lenSlice ht]) h
theorem TL.capSlice {e : TypeId} {a : Option Addr} {l c : Nat} (ht : P.underlying t = some (.slice e)) (hx : ev E x = some (.slice a l c)) (hd : Nat.blt d n = true)
    (h : TL P n ops rest ((d, .int .i64 (c : Int)) :: E) w K) : TL P n ops (⟨some d, .call { callee := .builtin .cap, args := #[x], argTypes := #[t] }, ty, pos, aft, none⟩ :: rest) E w K :=
  TL.val hd _ (fun a' ha => by simp only [execOp, resolve, invoke, builtin, Sem.run_bind, Sem.run_pure, Result.andThen_ok, List.map_toArray, List.map_cons, List.map_nil, ha.eval hx, run_capSlice ht]) h
/-- A byte of a string. -/
theorem TL.indexStr {l : List UInt8} {k : IntKind} {i : Int} {j : Nat} {b : UInt8} (ht : P.underlying t = some .string) (hx : ev E x = some (str l)) (hy : ev E y = some (.int k i)) (hij : i = (j : Int)) (hb : l[j]? = some b) (hd : Nat.blt d n = true)
    (h : TL P n ops rest ((d, u8 b) :: E) w K) : TL P n ops (⟨some d, .index t x y, ty, pos, aft, none⟩ :: rest) E w K :=
  TL.val hd _ (fun a' ha => by
    subst hij
    have hlt : j < l.length := (List.getElem?_eq_some_iff.1 hb).1
    have hv : (⟨l.toArray⟩ : ByteArray)[j]? = some b := by
      rw [ByteArray.getElem?_lt' _ _ (by simpa [ByteArray.size] using hlt)]
      have := (List.getElem?_eq_some_iff.1 hb).2
      simpa [ByteArray.getElem_eq_getElem_data] using this
    simp [execOp, ha.eval hx, ha.eval hy, Instr.index, run_underlying ht, asIntOf, hv]) h
/-- A part of a string. -/
theorem run_subStr {l : List UInt8} {lo hi : Option Value} {i j : Nat} (ht : P.underlying t = some .string) (h1 : (lo = none ∧ i = 0) ∨ ∃ k, lo = some (.int k (i : Int))) (h2 : (hi = none ∧ j = l.length) ∨ ∃ k, hi = some (.int k (j : Int)))
    (hij : i ≤ j) (hj : j ≤ l.length) : (Instr.sliceAt t (str l) lo hi none).run P w = .ok (str ((l.drop i).take (j - i))) w := by
  have hx : (⟨l.toArray⟩ : ByteArray).extract i j = ⟨((l.drop i).take (j - i)).toArray⟩ := ByteArray.extract_mk l i j
  rcases h1 with ⟨rfl, rfl⟩ | ⟨k, rfl⟩ <;> rcases h2 with ⟨rfl, rfl⟩ | ⟨k', rfl⟩ <;>
    simp [Instr.sliceAt, Instr.slice, run_underlying ht, Instr.sliceBounds, Instr.sliceBound, asIntOf, size_str, hij, hj, ByteArray.extract_mk]
theorem TL.subStr {l : List UInt8} {lo hi : Option Operand} {i j : Nat} (ht : P.underlying t = some .string) (hx : ev E x = some (str l)) (h1 : (lo = none ∧ i = 0) ∨ ∃ o k, lo = some o ∧ ev E o = some (.int k (i : Int))) (h2 : (hi = none ∧ j = l.length) ∨ ∃ o k, hi = some o ∧ ev E o = some (.int k (j : Int)))
    (hij : i ≤ j) (hj : j ≤ l.length) (hd : Nat.blt d n = true)
    (h : TL P n ops rest ((d, str ((l.drop i).take (j - i))) :: E) w K) : TL P n ops (⟨some d, .slice t x lo hi none, ty, pos, aft, none⟩ :: rest) E w K :=
  TL.val hd _ (fun a' ha => by
    have := run_subStr (P := P) (w := w) (l := l) (lo := lo.map a'.eval) (hi := hi.map a'.eval) (i := i) (j := j) ht
      (by rcases h1 with ⟨rfl, h⟩ | ⟨o, k, rfl, ho⟩
          · exact .inl ⟨rfl, h⟩
          · exact .inr ⟨k, by simp [ha.eval ho]⟩)
      (by rcases h2 with ⟨rfl, h⟩ | ⟨o, k, rfl, ho⟩
          · exact .inl ⟨rfl, h⟩
          · exact .inr ⟨k, by simp [ha.eval ho]⟩) hij hj
    simp [execOp, ha.eval hx, this]) h
/-- s[i:] -/
theorem TL.strFrom {l : List UInt8} {k : IntKind} {i : Int} {j : Nat} (ht : P.underlying t = some .string) (hx : ev E x = some (str l)) (hy : ev E y = some (.int k i)) (hij : i = (j : Int)) (hj : j ≤ l.length) (hd : Nat.blt d n = true)
    (h : TL P n ops rest ((d, str (l.drop j)) :: E) w K) : TL P n ops (⟨some d, .slice t x (some y) none none, ty, pos, aft, none⟩ :: rest) E w K := by
  subst hij
  refine TL.subStr (i := j) (j := l.length) ht hx (.inr ⟨y, k, rfl, hy⟩) (.inl ⟨rfl, rfl⟩) hj (Nat.le_refl _) hd ?_
  rw [List.take_of_length_le (by simp)]; exact h
/-- s[:i] -/
theorem TL.strTo {l : List UInt8} {k : IntKind} {i : Int} {j : Nat} (ht : P.underlying t = some .string) (hx : ev E x = some (str l)) (hy : ev E y = some (.int k i)) (hij : i = (j : Int)) (hj : j ≤ l.length) (hd : Nat.blt d n = true)
    (h : TL P n ops rest ((d, str (l.take j)) :: E) w K) : TL P n ops (⟨some d, .slice t x none (some y) none, ty, pos, aft, none⟩ :: rest) E w K := by
  subst hij
  refine TL.subStr (i := 0) (j := j) ht hx (.inl ⟨rfl, rfl⟩) (.inr ⟨y, k, rfl, hy⟩) (Nat.zero_le _) hj hd ?_
  simpa using h

theorem TL.eqlStr {yt : TypeId} {l m : List UInt8} (hx : ev E x = some (str l)) (hy : ev E y = some (str m)) (hd : Nat.blt d n = true)
    (h : TL P n ops rest ((d, .bool (decide (l = m))) :: E) w K) : TL P n ops (⟨some d, .binOp .eql t x y yt, ty, pos, aft, none⟩ :: rest) E w K := by
  refine TL.bin hx hy (guard_string _ _ _ _ _ _ _) ?_ hd h
  have e : (l == m) = decide (l = m) := by by_cases h : l = m <;> simp [h]
  rw [binOp_string_eql]; simp [e]
theorem TL.neqStr {yt : TypeId} {l m : List UInt8} (hx : ev E x = some (str l)) (hy : ev E y = some (str m)) (hd : Nat.blt d n = true)
    (h : TL P n ops rest ((d, .bool (decide (¬ l = m))) :: E) w K) : TL P n ops (⟨some d, .binOp .neq t x y yt, ty, pos, aft, none⟩ :: rest) E w K := by
  refine TL.bin hx hy (guard_string _ _ _ _ _ _ _) ?_ hd h
  have e : (!(l == m)) = decide (¬ l = m) := by by_cases h : l = m <;> simp [h]
  rw [binOp_string_neq]; simp only [ByteArray.toList_mk]; simp [e]
theorem TL.lssStr {yt : TypeId} {l m : List UInt8} (hx : ev E x = some (str l)) (hy : ev E y = some (str m)) (hd : Nat.blt d n = true)
    (h : TL P n ops rest ((d, .bool (Op.bytesLess l m)) :: E) w K) : TL P n ops (⟨some d, .binOp .lss t x y yt, ty, pos, aft, none⟩ :: rest) E w K := by
  refine TL.bin hx hy (guard_string _ _ _ _ _ _ _) ?_ hd h
  rw [binOp_string_lss]; simp
theorem TL.gtrStr {yt : TypeId} {l m : List UInt8} (hx : ev E x = some (str l)) (hy : ev E y = some (str m)) (hd : Nat.blt d n = true)
    (h : TL P n ops rest ((d, .bool (!(Op.bytesLess l m || decide (l = m)))) :: E) w K) : TL P n ops (⟨some d, .binOp .gtr t x y yt, ty, pos, aft, none⟩ :: rest) E w K := by
  refine TL.bin hx hy (guard_string _ _ _ _ _ _ _) ?_ hd h
  have e : (l == m) = decide (l = m) := by by_cases h : l = m <;> simp [h]
  simp [binOp, Op.stringOp, e]
theorem TL.leqStr {yt : TypeId} {l m : List UInt8} (hx : ev E x = some (str l)) (hy : ev E y = some (str m)) (hd : Nat.blt d n = true)
    (h : TL P n ops rest ((d, .bool (Op.bytesLess l m || decide (l = m))) :: E) w K) : TL P n ops (⟨some d, .binOp .leq t x y yt, ty, pos, aft, none⟩ :: rest) E w K := by
  refine TL.bin hx hy (guard_string _ _ _ _ _ _ _) ?_ hd h
  have e : (l == m) = decide (l = m) := by by_cases h : l = m <;> simp [h]
  simp [binOp, Op.stringOp, e]
theorem TL.geqStr {yt : TypeId} {l m : List UInt8} (hx : ev E x = some (str l)) (hy : ev E y = some (str m)) (hd : Nat.blt d n = true)
    (h : TL P n ops rest ((d, .bool (!Op.bytesLess l m)) :: E) w K) : TL P n ops (⟨some d, .binOp .geq t x y yt, ty, pos, aft, none⟩ :: rest) E w K := by
  refine TL.bin hx hy (guard_string _ _ _ _ _ _ _) ?_ hd h
  simp [binOp, Op.stringOp]
theorem TL.addStr {yt : TypeId} {l m : List UInt8} (hx : ev E x = some (str l)) (hy : ev E y = some (str m)) (hlen : l.length + m.length ≤ 9223372036854775807) (hd : Nat.blt d n = true)
    (h : TL P n ops rest ((d, str (l ++ m)) :: E) w K) : TL P n ops (⟨some d, .binOp .add t x y yt, ty, pos, aft, none⟩ :: rest) E w K := by
  refine TL.bin hx hy (guard_string _ _ _ _ _ _ _) ?_ hd h
  have hs : ¬ (9223372036854775807 : Int) < (l.length : Int) + (m.length : Int) := by omega
  have e : (⟨l.toArray⟩ : ByteArray) ++ ⟨m.toArray⟩ = ⟨(l ++ m).toArray⟩ := by
    rw [← List.append_toArray]; apply ByteArray.ext; simp
  rw [binOp_string_add]
  simp [Op.stringOp, size_str, IntKind.max, IntKind.bits, IntKind.signed, hs, e]

end
end Go.Lane
