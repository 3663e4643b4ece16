/-
  A password's digest in plain Lean. No program in sight.
-/
import Derived.Test.YtcoaophfojkldaaSeal
import Derived.Test.YtcoaophfojkldaaHex
namespace Go.Sha
/-- Sealed so many times over. -/
def chain (s p : List UInt8) : Nat → List UInt8
  | 0 => p
  | n + 1 => hmac s (chain s p n)
theorem chain_len (s p : List UInt8) (n : Nat) (hp : p.length ≤ 20000) : (chain s p n).length ≤ 20000 := by
  cases n with
  | zero => exact hp
  | succ n => rw [chain, hmac_len]; omega
theorem chain_32 (s p : List UInt8) {n : Nat} (hn : 1 ≤ n) : (chain s p n).length = 32 := by
  cases n with
  | zero => omega
  | succ n => rw [chain, hmac_len]
def passE (s p : List UInt8) (t : Int) : Nat := if 16384 < s.length ∨ 16384 < p.length then 3 else if t < 1 ∨ 64 < t then 2 else 0
def passS (s p : List UInt8) (t : Int) : List UInt8 := if 16384 < s.length ∨ 16384 < p.length then [] else if t < 1 ∨ 64 < t then [] else Hex.hexL (chain s p t.toNat)
theorem pass_long {s p : List UInt8} {t : Int} (h : 16384 < s.length ∨ 16384 < p.length) : passE s p t = 3 ∧ passS s p t = [] := ⟨if_pos h, if_pos h⟩
theorem pass_arg {s p : List UInt8} {t : Int} (h : ¬ (16384 < s.length ∨ 16384 < p.length)) (h2 : t < 1 ∨ 64 < t) : passE s p t = 2 ∧ passS s p t = [] := by
  unfold passE passS; rw [if_neg h, if_neg h, if_pos h2, if_pos h2]; exact ⟨rfl, rfl⟩
theorem pass_ok {s p : List UInt8} {t : Int} (h : ¬ (16384 < s.length ∨ 16384 < p.length)) (h2 : ¬ (t < 1 ∨ 64 < t)) : passE s p t = 0 ∧ passS s p t = Hex.hexL (chain s p t.toNat) := by
  unfold passE passS; rw [if_neg h, if_neg h, if_neg h2, if_neg h2]; exact ⟨rfl, rfl⟩
theorem abc : Hex.hexL (sum [97, 98, 99]) = [98, 97, 55, 56, 49, 54, 98, 102, 56, 102, 48, 49, 99, 102, 101, 97, 52, 49, 52, 49, 52, 48, 100, 101, 53, 100, 97, 101, 50, 50, 50, 51, 98, 48, 48, 51, 54, 49, 97, 51, 57, 54, 49, 55, 55, 97, 57, 99, 98, 52, 49, 48, 102, 102, 54, 49, 102, 50, 48, 48, 49, 53, 97, 100] := by decide +kernel
theorem unE_good {l : List UInt8} (h : Hex.good l) : Hex.unE l = 0 ∧ Hex.unL l = Hex.unV l := ⟨if_pos h, if_pos h⟩
theorem unE_bad {l : List UInt8} (h : ¬ Hex.good l) : Hex.unE l = 3 ∧ Hex.unL l = [] := ⟨if_neg h, if_neg h⟩
theorem unE_hex (l : List UInt8) : Hex.unE (Hex.hexL l) = 0 ∧ Hex.unL (Hex.hexL l) = l := by
  obtain ⟨h1, h2⟩ := unE_good (Hex.good_hexL l)
  exact ⟨h1, by rw [h2, Hex.unV_hexL]⟩
end Go.Sha
