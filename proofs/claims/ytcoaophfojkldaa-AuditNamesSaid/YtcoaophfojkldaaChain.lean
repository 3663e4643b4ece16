/-
  Chains of records in plain Lean. No program in sight.
-/
import Derived.Test.YtcoaophfojkldaaSeal
import Derived.Test.YtcoaophfojkldaaPass
import Derived.Test.YtcoaophfojkldaaRead
namespace Go.Audit
structure Record where
  seq : Int
  at_ : Int
  user : List UInt8
  deed : List UInt8
  outcome : Int
  hash : List UInt8
  deriving DecidableEq, Inhabited
def digest (s : List UInt8) : Prop := Hex.unE s = 0 ∧ s.length = 64
instance (s : List UInt8) : Decidable (digest s) := inferInstanceAs (Decidable (_ ∧ _))
theorem digest_half {s : List UInt8} (h : Hex.unE s = 0) : ((Hex.unL s).length = 32 ↔ s.length = 64) := by
  by_cases hg : Hex.good s
  · rw [(Sha.unE_good hg).2, Hex.unV_len]
    have := hg.1
    omega
  · rw [(Sha.unE_bad hg).1] at h; omega
def may (r : Record) : Prop := 0 ≤ r.seq ∧ 0 ≤ r.at_ ∧ r.at_ ≤ 1099511627776 ∧ r.user.length ≤ 32 ∧ r.deed.length ≤ 16384 ∧ 100 ≤ r.outcome ∧ r.outcome ≤ 599 ∧ digest r.hash
instance (r : Record) : Decidable (may r) := inferInstanceAs (Decidable (_ ∧ _))
def u64i (n : Int) : UInt64 := UInt64.ofNat (n % 18446744073709551616).toNat
def bytesR (r : Record) (before : List UInt8) : List UInt8 :=
  Bits.text before ++ Bits.put (u64i r.seq) ++ Bits.put (u64i r.at_) ++ Bits.put (u64i r.outcome) ++ Bits.text r.user ++ Bits.text r.deed
def hashed (r : Record) (before : List UInt8) : List UInt8 := Hex.hexL (Sha.sum (bytesR r before))
theorem hashed_len (r : Record) (b : List UInt8) : (hashed r b).length = 64 := by rw [hashed, Hex.hexL_len, Sha.sum_len]
theorem hashed_digest (r : Record) (b : List UInt8) : digest (hashed r b) := ⟨(Sha.unE_hex _).1, hashed_len r b⟩
def nothing : List UInt8 := [48, 48, 48, 48, 48, 48, 48, 48, 48, 48, 48, 48, 48, 48, 48, 48, 48, 48, 48, 48, 48, 48, 48, 48, 48, 48, 48, 48, 48, 48, 48, 48, 48, 48, 48, 48, 48, 48, 48, 48, 48, 48, 48, 48, 48, 48, 48, 48, 48, 48, 48, 48, 48, 48, 48, 48, 48, 48, 48, 48, 48, 48, 48, 48]
theorem nothing_digest : digest nothing := by decide +kernel
/-- The record at a place. -/
def rec (l : List Record) (i : Nat) : Record := l.getD i default
theorem rec_mem {l : List Record} {i : Nat} (h : i < l.length) : rec l i ∈ l := by
  rw [rec, List.getD_eq_getElem?_getD, List.getElem?_eq_getElem h]; exact List.getElem_mem h
theorem rec_eq {l : List Record} {i : Nat} (h : i < l.length) : l[i] = rec l i := by
  rw [rec, List.getD_eq_getElem?_getD, List.getElem?_eq_getElem h]; rfl
def before (l : List Record) (i : Nat) : List UInt8 := if i = 0 then nothing else (rec l (i - 1)).hash
theorem before_next (l : List Record) (i : Nat) : before l (i + 1) = (rec l i).hash := if_neg (by omega)
theorem before_len {l : List Record} {i : Nat} (h : ∀ r ∈ l, may r) (hi : i ≤ l.length) : (before l i).length = 64 ∧ digest (before l i) := by
  unfold before
  split
  · exact ⟨rfl, nothing_digest⟩
  · have := h _ (rec_mem (l := l) (i := i - 1) (by omega))
    exact ⟨this.2.2.2.2.2.2.2.2, this.2.2.2.2.2.2.2⟩
def fits (l : List Record) (i : Nat) : Prop := (rec l i).seq = i ∧ (i = 0 ∨ (rec l (i - 1)).at_ ≤ (rec l i).at_) ∧ (rec l i).hash = hashed (rec l i) (before l i)
instance (l : List Record) (i : Nat) : Decidable (fits l i) := inferInstanceAs (Decidable (_ ∧ _))
def firstI (l : List Record) : Int := match (List.range l.length).find? (fun i => !decide (fits l i)) with
  | some i => (i : Int)
  | none => -1
theorem first_at {l : List Record} {i : Nat} (hi : i < l.length) (hf : ¬ fits l i) (hb : ∀ j, j < i → fits l j) : firstI l = (i : Int) := by
  have : (List.range l.length).find? (fun i => !decide (fits l i)) = some i := by
    rw [List.find?_range_eq_some]
    exact ⟨by simp [hf], by simpa using hi, fun j hj => by simp [hb j hj]⟩
  rw [firstI, this]
theorem first_all {l : List Record} (h : ∀ j, j < l.length → fits l j) : firstI l = -1 := by
  have : (List.range l.length).find? (fun i => !decide (fits l i)) = none := by
    rw [List.find?_eq_none]
    intro j hj
    simp [h j (by simpa using hj)]
  rw [firstI, this]
theorem first_cases (l : List Record) : (firstI l = -1 ∧ ∀ j, j < l.length → fits l j) ∨ ∃ i, i < l.length ∧ firstI l = (i : Int) ∧ ¬ fits l i ∧ ∀ j, j < i → fits l j := by
  cases h : (List.range l.length).find? (fun i => !decide (fits l i)) with
  | none =>
    left
    rw [List.find?_eq_none] at h
    have h' : ∀ j, j < l.length → fits l j := fun j hj => by simpa using h j (by simpa using hj)
    exact ⟨first_all h', h'⟩
  | some i =>
    right
    rw [List.find?_range_eq_some] at h
    obtain ⟨h1, h2, h3⟩ := h
    have h1' : ¬ fits l i := by simpa using h1
    have h3' : ∀ j, j < i → fits l j := fun j hj => by simpa using h3 j hj
    have h2' : i < l.length := by simpa using h2
    exact ⟨i, h2', first_at h2' h1' h3', h1', h3'⟩
theorem first_neg (l : List Record) : firstI l < 0 ↔ ∀ j, j < l.length → fits l j := by
  rcases first_cases l with ⟨h1, h2⟩ | ⟨i, h1, h2, h3, h4⟩
  · rw [h1]; exact ⟨fun _ => h2, fun _ => by omega⟩
  · rw [h2]; exact ⟨fun h => by omega, fun h => absurd (h i h1) h3⟩
def askedE (l : List Record) : Nat := if 4096 < l.length then 4 else if ∃ r ∈ l, ¬ may r then 8 else 0
theorem asked_many {l : List Record} (h : 4096 < l.length) : askedE l = 4 := if_pos h
theorem asked_bad {l : List Record} (h : ¬ 4096 < l.length) (h2 : ∃ r ∈ l, ¬ may r) : askedE l = 8 := by rw [askedE, if_neg h, if_pos h2]
theorem asked_ok {l : List Record} (h : ¬ 4096 < l.length) (h2 : ∀ r ∈ l, may r) : askedE l = 0 := by
  rw [askedE, if_neg h, if_neg]; rintro ⟨r, hr, hn⟩; exact hn (h2 r hr)
theorem asked_zero {l : List Record} (h : askedE l = 0) : l.length ≤ 4096 ∧ ∀ r ∈ l, may r := by
  unfold askedE at h
  split at h
  · omega
  · split at h
    · omega
    · rename_i h1 h2
      exact ⟨by omega, fun r hr => by false_or_by_contra; rename_i hn; exact h2 ⟨r, hr, hn⟩⟩
def checkN (l : List Record) : Int := if askedE l = 0 then firstI l else 0
def textE (r : Record) (b : List UInt8) : Nat := if ¬ may r then 8 else if ¬ digest b then 3 else 0
def textS (r : Record) (b : List UInt8) : List UInt8 := if textE r b = 0 then bytesR r b else []
def headS (l : List Record) : List UInt8 := if askedE l = 0 then before l l.length else []
def rangeE (l : List Record) (a c : Int) : Nat := if askedE l ≠ 0 then askedE l else if a < 0 ∨ c < 0 then 2 else 0
def rangeL (l : List Record) (a c : Int) : List Record := if rangeE l a c = 0 then (l.drop a.toNat).take c.toNat else []
def nextE (l : List Record) (t : Int) (u d : List UInt8) (o : Int) : Nat :=
  if askedE l ≠ 0 then askedE l else if t < 0 ∨ 1099511627776 < t then 2 else if 32 < u.length ∨ 16384 < d.length then 3 else if o < 100 ∨ 599 < o then 2
  else if l.length = 4096 then 4 else if 0 ≤ firstI l ∨ (0 < l.length ∧ t < (rec l (l.length - 1)).at_) then 150 else 0
def newR (l : List Record) (t : Int) (u d : List UInt8) (o : Int) : Record := ⟨l.length, t, u, d, o, hashed ⟨l.length, t, u, d, o, []⟩ (before l l.length)⟩
def nextL (l : List Record) (t : Int) (u d : List UInt8) (o : Int) : List Record := if nextE l t u d o = 0 then l ++ [newR l t u d o] else []
theorem text_len (s : List UInt8) (h : s.length ≤ 100000) : (Bits.text s).length ≤ 100010 := by
  have := Bits.small_len64 (UInt64.ofNat s.length)
  have hn : (UInt64.ofNat s.length).toNat = s.length := by rw [UInt64.toNat_ofNat']; omega
  rw [hn] at this
  rw [Bits.text, List.length_append]; omega
theorem bytesR_len (r : Record) (b : List UInt8) (h1 : r.user.length ≤ 100000) (h2 : r.deed.length ≤ 100000) (h3 : b.length ≤ 100000) : (bytesR r b).length ≤ 400000 := by
  have e1 := text_len _ h1
  have e2 := text_len _ h2
  have e3 := text_len _ h3
  simp only [bytesR, List.length_append, Bits.put_len]; omega
end Go.Audit
