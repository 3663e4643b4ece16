/-
  The seal in plain Lean, and bytes compared without haste. No program in sight.
-/
import Derived.Test.YtcoaophfojkldaaSha
namespace Go.Sha
def keyT (s : List UInt8) : List UInt8 := if 64 < s.length then sum s else s
def keyB (s : List UInt8) : List UInt8 := keyT s ++ List.replicate (64 - (keyT s).length) 0
theorem keyT_len (s : List UInt8) : (keyT s).length ≤ 64 := by
  unfold keyT
  split
  · rw [sum_len]; omega
  · omega
theorem keyB_len (s : List UInt8) : (keyB s).length = 64 := by
  have := keyT_len s
  rw [keyB, List.length_append, List.length_replicate]; omega
def pad (s : List UInt8) (c : UInt8) : List UInt8 := (keyB s).map (· ^^^ c)
theorem pad_len (s : List UInt8) (c : UInt8) : (pad s c).length = 64 := by rw [pad, List.length_map, keyB_len]
def hmac (s b : List UInt8) : List UInt8 := sum (pad s 0x5c ++ sum (pad s 0x36 ++ b))
theorem hmac_len (s b : List UInt8) : (hmac s b).length = 32 := sum_len _

theorem updZ {α : Type} {z m : List α} (d : α) {j : Nat} (hj : j < m.length) (hm : m.length ≤ z.length) : (m.take j ++ z.drop j).set j (m.getD j d) = m.take (j + 1) ++ z.drop (j + 1) := by
  have e : z.drop j = z[j] :: z.drop (j + 1) := List.drop_eq_getElem_cons (by omega)
  have e2 : m.take (j + 1) = m.take j ++ [m.getD j d] := by
    rw [List.take_add_one, List.getD_eq_getElem?_getD, List.getElem?_eq_getElem (by omega)]; rfl
  have e3 : j - (m.take j).length = 0 := by simp; omega
  rw [List.set_append, if_neg (by simp; omega), e3, e, List.set_cons_zero, e2, List.append_assoc]; rfl
theorem midZ {α : Type} {z m : List α} (d : α) {j : Nat} (hj : j < m.length) (hm : m.length ≤ z.length) : (m.take j ++ z.drop j)[j]? = some (z.getD j d) := by
  rw [List.getElem?_append_right (by simp; omega), List.getElem?_drop, show j + (j - (m.take j).length) = j by simp; omega, List.getD_eq_getElem?_getD, List.getElem?_eq_getElem (by omega)]; rfl
theorem lenZ {α : Type} {z m : List α} {j : Nat} (hj : j ≤ m.length) (hm : m.length ≤ z.length) : (m.take j ++ z.drop j).length = z.length := by
  rw [List.length_append, List.length_take, List.length_drop]; omega
theorem keyB_fill (s : List UInt8) : (keyT s).take (keyT s).length ++ (List.replicate 64 (0 : UInt8)).drop (keyT s).length = keyB s := by
  rw [List.take_length, List.drop_replicate]; rfl

/-- What is gathered of the bytes that part. -/
def parts (a b : List UInt8) : Nat → UInt8
  | 0 => 0
  | k + 1 => parts a b k ||| (a.getD k 0 ^^^ b.getD k 0)
theorem or_zero (x y : UInt8) : x ||| y = 0 ↔ x = 0 ∧ y = 0 := by
  constructor
  · intro h
    have h1 : (x ||| y).toNat = 0 := by rw [h]; rfl
    rw [UInt8.toNat_or] at h1
    have hx : x.toNat = 0 := by
      have := Nat.left_le_or (n := x.toNat) (m := y.toNat); omega
    have hy : y.toNat = 0 := by
      have := Nat.right_le_or (n := x.toNat) (m := y.toNat); omega
    exact ⟨UInt8.toNat.inj hx, UInt8.toNat.inj hy⟩
  · rintro ⟨rfl, rfl⟩; rfl
theorem xor_zero (x y : UInt8) : x ^^^ y = 0 ↔ x = y := by
  constructor
  · intro h
    have e : (x ^^^ y) ^^^ y = 0 ^^^ y := by rw [h]
    rwa [UInt8.xor_assoc, UInt8.xor_self, UInt8.xor_zero, UInt8.zero_xor] at e
  · rintro rfl; exact UInt8.xor_self
theorem parts_zero (a b : List UInt8) : ∀ k, parts a b k = 0 ↔ ∀ i, i < k → a.getD i 0 = b.getD i 0
  | 0 => by simp [parts]
  | k + 1 => by
    rw [parts, or_zero, xor_zero, parts_zero a b k]
    constructor
    · rintro ⟨h1, h2⟩ i hi
      rcases Nat.lt_or_ge i k with h | h
      · exact h1 i h
      · rw [show i = k by omega]; exact h2
    · intro h; exact ⟨fun i hi => h i (by omega), h k (by omega)⟩
theorem parts_all {a b : List UInt8} (h : a.length = b.length) : parts a b a.length = 0 ↔ a = b := by
  rw [parts_zero]
  constructor
  · intro h1
    apply List.ext_getElem h
    intro i hi hj
    have := h1 i hi
    rw [List.getD_eq_getElem?_getD, List.getD_eq_getElem?_getD, List.getElem?_eq_getElem hi, List.getElem?_eq_getElem hj] at this
    exact this
  · rintro rfl i _; rfl
end Go.Sha
