/-
  Lists of bytes mixed and turned, in plain Lean. No program in sight.
-/
import Derived.Test.YtmfclhhnkocgiaaBits
namespace Go.Bits

theorem zipX_len (a b : List UInt8) : (zipX a b).length = min a.length b.length := by simp [zipX]
theorem zipX_get {a b : List UInt8} {j : Nat} {x y : UInt8} (h1 : a[j]? = some x) (h2 : b[j]? = some y) : (zipX a b)[j]? = some (x ^^^ y) := by
  simp [zipX, List.getElem?_zipWith, h1, h2]

/-- The change's byte. -/
def dby (by_ : UInt32) (j : Nat) : UInt8 := UInt8.ofNat (UInt32.ofNat (by_.toNat / 2 ^ (8 * j))).toNat
def window (by_ : UInt32) (at_ k n : Nat) : List UInt8 := List.replicate at_ 0 ++ (List.range k).map (dby by_) ++ List.replicate (n - at_ - k) 0
theorem window_len {by_ : UInt32} {at_ k n : Nat} (h : at_ + k ≤ n) : (window by_ at_ k n).length = n := by simp [window]; omega
theorem window_zero (by_ : UInt32) (at_ n : Nat) (h : at_ ≤ n) : window by_ at_ 0 n = List.replicate n 0 := by
  simp only [window, List.range_zero, List.map_nil, List.append_nil, List.replicate_append_replicate]
  congr 1; omega
theorem zipX_zero (l : List UInt8) : zipX l (List.replicate l.length 0) = l := by
  apply List.ext_getElem?
  intro j
  rcases Nat.lt_or_ge j l.length with h | h
  · rw [zipX_get (List.getElem?_eq_getElem h) (by rw [List.getElem?_replicate, if_pos h]), List.getElem?_eq_getElem h]; simp
  · rw [List.getElem?_eq_none (by simp [zipX]; omega), List.getElem?_eq_none h]
theorem window_get (by_ : UInt32) {at_ k n j : Nat} (h : at_ + k ≤ n) (hj : j < n) : (window by_ at_ k n)[j]? = some (if at_ ≤ j ∧ j < at_ + k then dby by_ (j - at_) else 0) := by
  simp only [window]
  by_cases h1 : j < at_
  · rw [List.getElem?_append_left (by simp; omega), List.getElem?_append_left (by simpa using h1), List.getElem?_replicate, if_pos h1, if_neg (by omega)]
  · by_cases h2 : j < at_ + k
    · rw [List.getElem?_append_left (by simp; omega), List.getElem?_append_right (by simp; omega), if_pos (by omega)]
      simp only [List.length_replicate, List.getElem?_map]
      rw [List.getElem?_range (by omega)]; rfl
    · rw [List.getElem?_append_right (by simp; omega), List.getElem?_replicate, if_pos (by simp; omega), if_neg (by omega)]

/-- One byte more is turned. -/
theorem turn_step (by_ : UInt32) (l : List UInt8) {at_ k : Nat} (h : at_ + k < l.length) :
    ∃ x, (zipX l (window by_ at_ k l.length))[at_ + k]? = some x ∧ (zipX l (window by_ at_ k l.length)).set (at_ + k) (x ^^^ dby by_ k) = zipX l (window by_ at_ (k + 1) l.length) := by
  have h0 := window_get by_ (at_ := at_) (k := k) (n := l.length) (j := at_ + k) (by omega) h
  rw [if_neg (by omega)] at h0
  refine ⟨_, zipX_get (List.getElem?_eq_getElem h) h0, ?_⟩
  apply List.ext_getElem?
  intro j
  rcases Nat.lt_or_ge j l.length with hj | hj
  · have h1 := window_get by_ (at_ := at_) (k := k) (n := l.length) (j := j) (by omega) hj
    have h2 := window_get by_ (at_ := at_) (k := k + 1) (n := l.length) (j := j) (by omega) hj
    have hlen : (zipX l (window by_ at_ k l.length)).length = l.length := by rw [zipX_len, window_len (by omega)]; omega
    rw [List.getElem?_set, zipX_get (List.getElem?_eq_getElem hj) h2, zipX_get (List.getElem?_eq_getElem hj) h1]
    by_cases hk : at_ + k = j
    · subst hk
      rw [if_pos rfl, if_pos (by omega), if_pos (by omega)]
      simp [show at_ + k - at_ = k by omega]
    · rw [if_neg hk]
      congr 2
      by_cases hc : at_ ≤ j ∧ j < at_ + k
      · rw [if_pos hc, if_pos (by omega)]
      · rw [if_neg hc, if_neg (by omega)]
  · rw [List.getElem?_eq_none (by simp [zipX]; omega), List.getElem?_eq_none (by simp [zipX]; omega)]

theorem xor_back (x y : UInt8) : x ^^^ (x ^^^ y) = y := by rw [← UInt8.xor_assoc, UInt8.xor_self, UInt8.zero_xor]

/-- The stage's words on turned lists. -/
theorem turned_sum (by_ : UInt32) (l : List UInt8) (at_ k : Nat) (h : at_ + k ≤ l.length) (hk : k ≤ 4) :
    sumT l = sumT (zipX l (window by_ at_ k l.length)) ↔ (List.range k).any (fun j => dby by_ j != 0) = false := by
  have hlen : (zipX l (window by_ at_ k l.length)).length = l.length := by rw [zipX_len, window_len h]; omega
  have hx : zipX l (zipX l (window by_ at_ k l.length)) = window by_ at_ k l.length := by
    apply List.ext_getElem?
    intro j
    rcases Nat.lt_or_ge j l.length with hj | hj
    · have h1 := window_get by_ h hj
      rw [zipX_get (List.getElem?_eq_getElem hj) (zipX_get (List.getElem?_eq_getElem hj) h1), h1, xor_back]
    · rw [List.getElem?_eq_none (by simp [zipX]; omega), List.getElem?_eq_none (by rw [window_len h]; exact hj)]
  rw [sum_turned l _ at_ (l.length - at_ - k) ((List.range k).map (dby by_)) hlen.symm (by simpa using hk) hx]
  simp
theorem ne0 (x : UInt8) : decide (¬ ((x.toNat : Nat) : Int) = 0) = (x != 0) := by
  by_cases h : x = 0
  · subst h; rfl
  · have : x.toNat ≠ 0 := fun e => h (UInt8.toNat.inj (by rw [e]; rfl))
    have h2 : (x != 0) = true := by simpa using h
    rw [h2]; exact decide_eq_true (by omega)
theorem any_succ (by_ : UInt32) (k : Nat) : (List.range (k + 1)).any (fun j => dby by_ j != 0) = ((List.range k).any (fun j => dby by_ j != 0) || dby by_ k != 0) := by
  rw [List.range_succ, List.any_append]; simp
theorem turned_bool {a b : UInt32} {t : Bool} (h : a = b ↔ t = false) : decide (((a.toNat : Nat) : Int) = ((b.toNat : Nat) : Int)) = !t := by
  by_cases hq : a = b
  · rw [h.1 hq, hq]; simp
  · have ht : t = true := by cases t with | true => rfl | false => exact (hq (h.2 rfl)).elim
    rw [ht]
    exact decide_eq_false fun e => hq (UInt32.toNat.inj (by omega))
end Go.Bits
