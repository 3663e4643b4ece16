/-
  A string's runes are all plain exactly where its bytes are. No program in sight.
-/
import Derived.Test.YtemfaondlhglbaaTm
import Derived.Shelf.GgClosure.StringsIndexFunc
import Derived.Laws.RangeString
import Derived.Lib.Bytealg
namespace Go.Tm
open Go
def okR (x : Nat) : Bool := decide ((97 ≤ x ∧ x ≤ 122) ∨ (48 ≤ x ∧ x ≤ 57) ∨ x = 45 ∨ x = 95 ∨ x = 46)
theorem okB_iff (b : UInt8) : okB b ↔ okR b.toNat = true := by rw [okR, decide_eq_true_eq]; rfl
theorem okR_wide {x : Nat} (h : 128 ≤ x) : okR x = false := by rw [okR, decide_eq_false_iff_not]; omega
theorem decode_wide (s : ByteArray) (i : Nat) (h : 128 ≤ (s.get! i).toNat) : 128 ≤ (Utf8.decode s i).1 := by
  unfold Utf8.decode
  simp only [Nat.add_zero]
  repeat' split
  all_goals (try simp only [Utf8.runeError])
  all_goals (try simp_all)
  all_goals omega
theorem get_lt (s : ByteArray) (i : Nat) (h : i < s.size) : s.get! i = s.data.toList[i]'(by simpa using h) := by
  have : s.get! i = s[i] := by
    show s.data[i]! = _
    rw [getElem!_pos s.data i h]; rfl
  rw [this]; rfl
theorem decode_low (s : ByteArray) (i : Nat) (h : (s.get! i).toNat < 128) : Utf8.decode s i = ((s.get! i).toNat, 1) := by
  unfold Utf8.decode
  simp only [Nat.add_zero]
  rw [if_pos (by simpa using h)]
theorem idx_from (s : ByteArray) : ∀ (f pos : Nat), s.size ≤ pos + f → (0 ≤ Lib.idxFuncFrom (fun x => !okR x) true s f pos ↔ ∃ j, ∃ h : j < s.data.toList.length, pos ≤ j ∧ ¬ okB s.data.toList[j])
  | 0, pos, hf => by
    rw [Lib.idxFuncFrom]
    have : s.data.toList.length = s.size := by simp
    constructor
    · intro h; omega
    · rintro ⟨j, hj, h1, _⟩; omega
  | f + 1, pos, hf => by
    rw [Lib.idxFuncFrom]
    have hsz : s.data.toList.length = s.size := by simp
    by_cases hp : pos < s.size
    · rw [if_pos hp]
      have hg := get_lt s pos hp
      by_cases hb : (s.get! pos).toNat < 128
      · rw [decode_low s pos hb]
        by_cases ho : okR (s.get! pos).toNat = true
        · simp only [ho, Bool.not_true, Bool.false_eq_true, if_false]
          rw [idx_from s f (pos + 1) (by omega)]
          constructor
          · rintro ⟨j, hj, h1, h2⟩; exact ⟨j, hj, by omega, h2⟩
          · rintro ⟨j, hj, h1, h2⟩
            refine ⟨j, hj, ?_, h2⟩
            rcases Nat.lt_or_eq_of_le h1 with h | h
            · omega
            · subst h; rw [← hg] at h2; exact absurd ((okB_iff _).2 ho) h2
        · have ho' : okR (s.get! pos).toNat = false := by simpa using ho
          simp only [ho', Bool.not_false, if_true]
          exact ⟨fun _ => ⟨pos, by omega, Nat.le_refl _, by rw [← hg, okB_iff]; simpa using ho'⟩, fun _ => by omega⟩
      · have hw := decode_wide s pos (by omega)
        simp only [okR_wide hw, Bool.not_false, if_true]
        refine ⟨fun _ => ⟨pos, by omega, Nat.le_refl _, ?_⟩, fun _ => by omega⟩
        rw [← hg, okB_iff, okR_wide (by omega)]; simp
    · rw [if_neg hp]
      constructor
      · intro h; omega
      · rintro ⟨j, hj, h1, _⟩; omega
theorem idx_ok (s : List UInt8) : 0 ≤ Lib.idxFunc (fun x => !okR x) true ⟨s.toArray⟩ ↔ ¬ ∀ b ∈ s, okB b := by
  rw [Lib.idxFunc, idx_from _ _ _ (by omega)]
  constructor
  · rintro ⟨j, hj, _, h⟩ ha; exact h (ha _ (by simp))
  · intro h
    apply Classical.byContradiction
    intro hn
    refine h (fun b hb => Classical.byContradiction fun hb2 => hn ?_)
    obtain ⟨j, hj, rfl⟩ := List.getElem_of_mem hb
    exact ⟨j, by simpa using hj, Nat.zero_le _, by simpa using hb2⟩
theorem dash_idx (r : Int) (h0 : 0 ≤ r) (h1 : r < 128) : 0 ≤ Lib.indexByte [45, 95, 46] r.toNat.toUInt8 ↔ r = 45 ∨ r = 95 ∨ r = 46 := by
  obtain ⟨n, rfl⟩ : ∃ n : Nat, r = n := ⟨r.toNat, by omega⟩
  have hn : n < 128 := by omega
  have e1 : ∀ k : Nat, k < 128 → ((k.toUInt8 == n.toUInt8) = true ↔ n = k) := by
    intro k hk
    rw [beq_iff_eq]
    constructor
    · intro h; have := congrArg UInt8.toNat h; simp at this; omega
    · rintro rfl; rfl
  simp only [Lib.indexByte, Int.toNat_natCast]
  have a1 := e1 45 (by omega)
  have a2 := e1 95 (by omega)
  have a3 := e1 46 (by omega)
  have b1 : (45 : UInt8) = Nat.toUInt8 45 := rfl
  have b2 : (95 : UInt8) = Nat.toUInt8 95 := rfl
  have b3 : (46 : UInt8) = Nat.toUInt8 46 := rfl
  rw [b1, b2, b3]
  by_cases c1 : (Nat.toUInt8 45 == n.toUInt8) = true <;> by_cases c2 : (Nat.toUInt8 95 == n.toUInt8) = true <;> by_cases c3 : (Nat.toUInt8 46 == n.toUInt8) = true <;>
    simp only [c1, c2, c3, if_true, if_false, Bool.false_eq_true] <;> simp_all <;> omega
end Go.Tm
