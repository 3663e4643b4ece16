/-
  A row with one more entry, and what is found in it: in plain Lean. No program in sight.
-/
import Derived.Test.YteogahcefkepaaaEn
namespace Go.En
def cmpE (a b : Entry) : Int := if less a b then -1 else if less b a then 1 else 0
theorem cmpE_neg {a b : Entry} : cmpE a b < 0 ↔ less a b := by
  unfold cmpE
  split
  · rename_i h; exact ⟨fun _ => h, fun _ => by decide⟩
  · rename_i h
    refine ⟨fun h2 => ?_, fun h2 => absurd h2 h⟩
    split at h2 <;> omega
theorem cmpE_zero {a b : Entry} : cmpE a b = 0 ↔ ¬ less a b ∧ ¬ less b a := by
  unfold cmpE
  split
  · rename_i h; exact ⟨fun h2 => by omega, fun h2 => absurd h h2.1⟩
  · rename_i h
    split
    · rename_i h3; exact ⟨fun h2 => by omega, fun h2 => absurd h3 h2.2⟩
    · rename_i h3; exact ⟨fun _ => ⟨h, h3⟩, fun _ => rfl⟩
/-- How many stand ahead of 'x', from the beginning on. -/
def ahead (l : List Entry) (x : Entry) : Nat := (l.takeWhile fun y => decide (less y x)).length
theorem ahead_le (l : List Entry) (x : Entry) : ahead l x ≤ l.length := (List.takeWhile_sublist _).length_le
theorem ahead_eq {x : Entry} : ∀ {l : List Entry} {k : Nat}, k ≤ l.length → (∀ i, i < k → less (rec l i) x) → (k = l.length ∨ ¬ less (rec l k) x) → ahead l x = k
  | [], k, h, _, _ => by have : k = 0 := by simpa using h
                         subst this; rfl
  | y :: r, 0, _, _, h2 => by
    have : ¬ less y x := h2.resolve_left (by simp)
    rw [ahead, List.takeWhile_cons_of_neg (by simpa using this)]; rfl
  | y :: r, k + 1, h, h1, h2 => by
    have hy : less y x := h1 0 (by omega)
    rw [ahead, List.takeWhile_cons_of_pos (by simpa using hy), List.length_cons]
    have := ahead_eq (l := r) (k := k) (by simpa using h) (fun i hi => h1 (i + 1) (by omega)) (by
      rcases h2 with h2 | h2
      · left; simpa using h2
      · exact .inr h2)
    rw [ahead] at this
    rw [this]
theorem less_mono {l : List Entry} (hs : l.Pairwise less) {i j : Nat} {x : Entry} (hij : i ≤ j) (hj : j < l.length) (h : less (rec l j) x) : less (rec l i) x := by
  rcases Nat.lt_or_ge i j with h1 | h1
  · exact less_trans (rises_at hs h1 hj) h
  · rw [show i = j by omega]; exact h
theorem ahead_at {l : List Entry} {x : Entry} : (∀ i, i < ahead l x → less (rec l i) x) ∧ (ahead l x = l.length ∨ ¬ less (rec l (ahead l x)) x) := by
  induction l with
  | nil => exact ⟨fun i hi => by simp [ahead] at hi, .inl rfl⟩
  | cons y r ih =>
    by_cases hy : less y x
    · have e : ahead (y :: r) x = ahead r x + 1 := by rw [ahead, List.takeWhile_cons_of_pos (by simpa using hy)]; rfl
      rw [e]
      refine ⟨fun i hi => ?_, ?_⟩
      · cases i with
        | zero => exact hy
        | succ i => exact ih.1 i (by omega)
      · rcases ih.2 with h | h
        · left; simp [h]
        · exact .inr h
    · have e : ahead (y :: r) x = 0 := by rw [ahead, List.takeWhile_cons_of_neg (by simpa using hy)]; rfl
      rw [e]
      exact ⟨fun i hi => by omega, .inr hy⟩
theorem check_one (x : Entry) : checkE [x] = one x := by
  by_cases h : one x = 0
  · simp [checkE, firstBad, badAt, rec, h]
  · simp [checkE, firstBad, badAt, rec, h]
def putE (l : List Entry) (x : Entry) : Nat := if checkE l ≠ 0 then checkE l else if one x ≠ 0 then one x else if ahead l x < l.length ∧ ¬ less x (rec l (ahead l x)) then 100 else if 4096 ≤ l.length then 4 else 0
def putL (l : List Entry) (x : Entry) : List Entry := if putE l x = 0 then l.take (ahead l x) ++ ([x] ++ l.drop (ahead l x)) else []
theorem put_bad {l : List Entry} {x : Entry} (h : checkE l ≠ 0) : putE l x = checkE l ∧ putL l x = [] := by
  have e : putE l x = checkE l := if_pos h
  exact ⟨e, if_neg (by omega)⟩
theorem put_one {l : List Entry} {x : Entry} (h : checkE l = 0) (h1 : one x ≠ 0) : putE l x = one x ∧ putL l x = [] := by
  have e : putE l x = one x := by rw [putE, if_neg (by omega), if_pos h1]
  exact ⟨e, if_neg (by omega)⟩
theorem put_tie {l : List Entry} {x : Entry} (h : checkE l = 0) (h1 : one x = 0) (h2 : ahead l x < l.length ∧ ¬ less x (rec l (ahead l x))) : putE l x = 100 ∧ putL l x = [] := by
  have e : putE l x = 100 := by rw [putE, if_neg (by omega), if_neg (by omega), if_pos h2]
  exact ⟨e, if_neg (by omega)⟩
theorem put_many {l : List Entry} {x : Entry} (h : checkE l = 0) (h1 : one x = 0) (h2 : ¬ (ahead l x < l.length ∧ ¬ less x (rec l (ahead l x)))) (h3 : 4096 ≤ l.length) : putE l x = 4 ∧ putL l x = [] := by
  have e : putE l x = 4 := by rw [putE, if_neg (by omega), if_neg (by omega), if_neg h2, if_pos h3]
  exact ⟨e, if_neg (by omega)⟩
theorem put_ok {l : List Entry} {x : Entry} (h : checkE l = 0) (h1 : one x = 0) (h2 : ¬ (ahead l x < l.length ∧ ¬ less x (rec l (ahead l x)))) (h3 : ¬ 4096 ≤ l.length) : putE l x = 0 ∧ putL l x = l.take (ahead l x) ++ ([x] ++ l.drop (ahead l x)) := by
  have e : putE l x = 0 := by rw [putE, if_neg (by omega), if_neg (by omega), if_neg h2, if_neg h3]
  exact ⟨e, if_pos e⟩
theorem putL_len (l : List Entry) (x : Entry) : (putL l x).length ≤ l.length + 1 := by
  unfold putL
  split
  · simp; omega
  · simp
/-- What is asked for. -/
def ask (k : List UInt8) (n : Int) : Entry := ⟨k, [], n, false⟩
def askE (k : List UInt8) (n : Int) : Nat := if k.length < 1 ∨ 256 < k.length then 60 else if n < 0 ∨ 2147483647 < n then 2 else 0
def findE (l : List Entry) (k : List UInt8) (n : Int) : Nat := if checkE l ≠ 0 then checkE l else askE k n
def findX (l : List Entry) (k : List UInt8) (n : Int) : Option Entry := if findE l k n = 0 then newest l k n else none
theorem ask_key {k : List UInt8} {n : Int} (h : k.length < 1 ∨ 256 < k.length) : askE k n = 60 := if_pos h
theorem ask_arg {k : List UInt8} {n : Int} (h : ¬ (k.length < 1 ∨ 256 < k.length)) (h1 : n < 0 ∨ 2147483647 < n) : askE k n = 2 := by rw [askE, if_neg h, if_pos h1]
theorem ask_ok {k : List UInt8} {n : Int} (h : ¬ (k.length < 1 ∨ 256 < k.length)) (h1 : ¬ (n < 0 ∨ 2147483647 < n)) : askE k n = 0 := by rw [askE, if_neg h, if_neg h1]
theorem find_bad {l : List Entry} {k : List UInt8} {n : Int} (h : checkE l ≠ 0) : findE l k n = checkE l ∧ findX l k n = none := by
  have e : findE l k n = checkE l := if_pos h
  exact ⟨e, if_neg (by omega)⟩
theorem find_ask {l : List Entry} {k : List UInt8} {n : Int} (h : checkE l = 0) (h1 : askE k n ≠ 0) : findE l k n = askE k n ∧ findX l k n = none := by
  have e : findE l k n = askE k n := by rw [findE, if_neg (by omega)]
  exact ⟨e, if_neg (by omega)⟩
theorem find_ok {l : List Entry} {k : List UInt8} {n : Int} (h : checkE l = 0) (h1 : askE k n = 0) : findE l k n = 0 ∧ findX l k n = newest l k n := by
  have e : findE l k n = 0 := by rw [findE, if_neg (by omega), h1]
  exact ⟨e, if_pos e⟩
theorem ask_less {y : Entry} {k : List UInt8} {n : Int} (hk : y.key = k) : less y (ask k n) ↔ n < y.seq := by
  unfold less ask
  simp [hk]
/-- In what rises, the newest of a key stands where the search ends. -/
theorem newest_at {l : List Entry} (hs : l.Pairwise less) (k : List UInt8) (n : Int) : newest l k n = if ahead l (ask k n) < l.length ∧ (rec l (ahead l (ask k n))).key = k then some (rec l (ahead l (ask k n))) else none := by
  obtain ⟨h1, h2⟩ := ahead_at (l := l) (x := ask k n)
  obtain ⟨m, hm⟩ : ∃ m, ahead l (ask k n) = m := ⟨_, rfl⟩
  have hle := ahead_le l (ask k n)
  rw [hm] at h1 h2 hle ⊢
  have hbefore : ∀ i, i < m → ¬ hit (rec l i) k n := fun i hi hh => by
    have := (ask_less hh.1).1 (h1 i hi)
    have := hh.2
    omega
  split
  · rename_i h
    have hh : hit (rec l m) k n := ⟨h.2, by
      have h3 := h2.resolve_left (by omega)
      rw [ask_less h.2] at h3
      omega⟩
    have hd : l = l.take m ++ rec l m :: l.drop (m + 1) := by
      conv => lhs; rw [← List.take_append_drop m l, List.drop_eq_getElem_cons h.1, rec_eq h.1]
    rw [newest, hd, List.find?_append]
    rw [List.find?_eq_none.2 (fun x hx => by
      obtain ⟨i, hi, rfl⟩ := List.getElem_of_mem hx
      have hi' : i < m := by rw [List.length_take] at hi; omega
      rw [List.getElem_take, rec_eq (by omega)]
      simpa using hbefore i hi')]
    rw [Option.none_or, ← hd, List.find?_cons_of_pos (by simpa using hh)]
  · rename_i h
    rw [newest, List.find?_eq_none]
    intro x hx hh
    obtain ⟨i, hi, rfl⟩ := List.getElem_of_mem hx
    rw [rec_eq hi] at hh
    have hh : hit (rec l i) k n := by simpa using hh
    rcases Nat.lt_or_ge i m with h3 | h3
    · exact hbefore i h3 hh
    · have hml : m < l.length := by omega
      have h4 := h2.resolve_left (by omega)
      refine h ⟨hml, ?_⟩
      -- the one at 'm' stands not behind, the one at 'i' not ahead: their keys are one
      have h5 : ¬ less (rec l i) (rec l m) := by
        rcases Nat.lt_or_ge m i with h6 | h6
        · exact less_asymm (rises_at hs h6 hi)
        · rw [show i = m by omega]; exact less_irrefl _
      rcases bl_total (rec l m).key k with h6 | h6 | h6
      · exact absurd (by unfold less ask; rw [if_neg (fun e => by rw [e] at h6; exact bl_irrefl _ h6)]; exact h6) h4
      · exact h6
      · exact absurd (by unfold less; rw [if_neg (fun e => by rw [hh.1] at e; rw [← e] at h6; exact bl_irrefl _ h6), hh.1]; exact h6) h5
end Go.En
