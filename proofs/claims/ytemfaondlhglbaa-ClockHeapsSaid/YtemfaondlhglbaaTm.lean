/-
  Timers in plain Lean. No program in sight.
-/
namespace Go.Tm
structure Timer where
  at_ : Int
  seq : Int
  cas : Int
  stage : List UInt8
  event : List UInt8
  deriving DecidableEq, Inhabited
/-- May a byte stand in a name? -/
def okB (b : UInt8) : Prop := (97 ≤ b.toNat ∧ b.toNat ≤ 122) ∨ (48 ≤ b.toNat ∧ b.toNat ≤ 57) ∨ b.toNat = 45 ∨ b.toNat = 95 ∨ b.toNat = 46
instance (b : UInt8) : Decidable (okB b) := inferInstanceAs (Decidable (_ ∨ _))
def named (s : List UInt8) : Prop := 0 < s.length ∧ s.length ≤ 32 ∧ ∀ b ∈ s, okB b
instance (s : List UInt8) : Decidable (named s) := inferInstanceAs (Decidable (_ ∧ _))
def may (t : Timer) : Prop := 0 ≤ t.at_ ∧ t.at_ ≤ 1099511627776 ∧ 0 ≤ t.seq ∧ t.seq ≤ 2147483647 ∧ 0 ≤ t.cas ∧ t.cas ≤ 2147483647 ∧ named t.stage ∧ named t.event
instance (t : Timer) : Decidable (may t) := inferInstanceAs (Decidable (_ ∧ _))
def ahead (a b : Timer) : Prop := a.at_ < b.at_ ∨ (a.at_ = b.at_ ∧ a.seq < b.seq)
instance (a b : Timer) : Decidable (ahead a b) := inferInstanceAs (Decidable (_ ∨ _))
/-- The timer at a place. -/
def rec (l : List Timer) (i : Nat) : Timer := l.getD i default
theorem rec_mem {l : List Timer} {i : Nat} (h : i < l.length) : rec l i ∈ l := by
  rw [rec, List.getD_eq_getElem?_getD, List.getElem?_eq_getElem h]; exact List.getElem_mem h
theorem rec_eq {l : List Timer} {i : Nat} (h : i < l.length) : l[i] = rec l i := by
  rw [rec, List.getD_eq_getElem?_getD, List.getElem?_eq_getElem h]; rfl
def has (l : List Timer) (s : Int) : Prop := ∃ t ∈ l, t.seq = s
instance (l : List Timer) (s : Int) : Decidable (has l s) := inferInstanceAs (Decidable (∃ t ∈ l, _))
/-- A place where the list is as it may be. -/
def good (l : List Timer) (i : Nat) : Prop := may (rec l i) ∧ ¬ has (l.take i) (rec l i).seq ∧ (i = 0 ∨ ahead (rec l (i - 1)) (rec l i))
instance (l : List Timer) (i : Nat) : Decidable (good l i) := inferInstanceAs (Decidable (_ ∧ _))
def checkE (l : List Timer) : Nat := if 256 < l.length then 4 else if ∀ i, i < l.length → good l i then 0 else 8
theorem check_many {l : List Timer} (h : 256 < l.length) : checkE l = 4 := if_pos h
theorem check_bad {l : List Timer} (h : ¬ 256 < l.length) {i : Nat} (hi : i < l.length) (hb : ¬ good l i) : checkE l = 8 := by
  rw [checkE, if_neg h, if_neg (fun h' => hb (h' i hi))]
theorem check_ok {l : List Timer} (h : ¬ 256 < l.length) (hg : ∀ i, i < l.length → good l i) : checkE l = 0 := by
  rw [checkE, if_neg h, if_pos hg]
theorem check_zero {l : List Timer} (h : checkE l = 0) : l.length ≤ 256 ∧ ∀ i, i < l.length → good l i := by
  unfold checkE at h
  split at h
  · omega
  · split at h
    · rename_i h1 h2; exact ⟨by omega, h2⟩
    · omega
end Go.Tm
