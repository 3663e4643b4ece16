/-
  Numbers and texts as bytes, in plain Lean. No program in sight.
-/
namespace Go.Bits

/-- A number's byte. -/
def pb (n : UInt64) (j : Nat) : UInt8 := UInt8.ofNat (UInt64.ofNat (n.toNat / 2 ^ (8 * j))).toNat
def put (n : UInt64) : List UInt8 := (List.range 8).map (pb n)
theorem put_len (n : UInt64) : (put n).length = 8 := by simp [put]

/-- Small bytes, seven bits each. -/
def small (n : Nat) : List UInt8 := if n < 128 then [UInt8.ofNat n] else UInt8.ofNat (n % 128 + 128) :: small (n / 128)
termination_by n
decreasing_by omega

theorem small_lt {n : Nat} (h : n < 128) : small n = [UInt8.ofNat n] := by rw [small, if_pos h]
theorem small_ge {n : Nat} (h : ¬ n < 128) : small n = UInt8.ofNat (n % 128 + 128) :: small (n / 128) := by rw [small, if_neg h]

theorem small_len : ∀ (k n : Nat), n < 128 ^ (k + 1) → (small n).length ≤ k + 1
  | 0, n, h => by rw [small_lt (by simpa using h)]; simp
  | k + 1, n, h => by
    by_cases h1 : n < 128
    · rw [small_lt h1]; simp
    · rw [small_ge h1, List.length_cons]
      have := small_len k (n / 128) (by rw [Nat.pow_succ] at h; exact Nat.div_lt_of_lt_mul (by omega))
      omega
theorem small_len64 (n : UInt64) : (small n.toNat).length ≤ 10 := small_len 9 _ (Nat.lt_trans (UInt64.toNat_lt n) (by decide))
theorem small_pos (n : Nat) : 0 < (small n).length := by
  by_cases h : n < 128
  · rw [small_lt h]; simp
  · rw [small_ge h]; simp

theorem or128 : ∀ j : Fin 256, (UInt8.ofNat j.val ||| 128) = UInt8.ofNat (j.val % 128 + 128) := by decide +kernel
theorem byte_or (m : Nat) : (UInt8.ofNat m ||| 128) = UInt8.ofNat (m % 128 + 128) := by
  have h := or128 ⟨m % 256, by omega⟩
  have e1 : UInt8.ofNat (m % 256) = UInt8.ofNat m := by
    apply UInt8.toNat.inj; rw [UInt8.toNat_ofNat', UInt8.toNat_ofNat']; omega
  have e2 : m % 256 % 128 = m % 128 := by omega
  simp only [e1, e2] at h
  exact h
theorem sh7 (x : UInt64) : (UInt64.ofNat (x.toNat / 2 ^ (7 : Int).toNat)).toNat = x.toNat / 128 := by
  have := UInt64.toNat_lt x
  rw [UInt64.toNat_ofNat']
  show x.toNat / 128 % 2 ^ 64 = _
  omega

/-- How many bytes are still to come. -/
def cnt (x : Nat) : Nat := if x = 0 then 0 else (small x).length
theorem cnt_zero : cnt 0 = 0 := rfl
theorem small_cnt (n : Nat) : (small n).length = 1 + cnt (n / 128) := by
  by_cases h : n < 128
  · rw [small_lt h, show n / 128 = 0 by omega]; rfl
  · rw [small_ge h, cnt, if_neg (by omega), List.length_cons]; omega
theorem cnt_pos {x : Nat} (h : 0 < x) : cnt x = 1 + cnt (x / 128) := by
  rw [cnt, if_neg (by omega), small_cnt]
theorem small_last : ∀ n : Nat, ∃ b : UInt8, (small n)[(small n).length - 1]? = some b ∧ b.toNat < 128 := by
  intro n
  induction n using Nat.strongRecOn with
  | _ n ih =>
    by_cases h : n < 128
    · rw [small_lt h]
      refine ⟨_, rfl, ?_⟩
      rw [UInt8.toNat_ofNat']; omega
    · obtain ⟨b, h1, h2⟩ := ih (n / 128) (by omega)
      have hp := small_pos (n / 128)
      rw [small_ge h]
      refine ⟨b, ?_, h2⟩
      rw [List.length_cons, Nat.add_sub_cancel, show (small (n / 128)).length = ((small (n / 128)).length - 1) + 1 by omega, List.getElem?_cons_succ]
      exact h1
end Go.Bits
