/-
  Lists of work in plain Lean. No program in sight.
-/
namespace Go.Wk
structure Work where
  id : Int
  cas : Int
  stage : List UInt8
  role : List UInt8
  state : UInt8
  owner : List UInt8
  deriving DecidableEq, Inhabited
/-- May a byte stand in a name? -/
def okB (b : UInt8) : Prop := (97 ≤ b.toNat ∧ b.toNat ≤ 122) ∨ (48 ≤ b.toNat ∧ b.toNat ≤ 57) ∨ b.toNat = 45 ∨ b.toNat = 95 ∨ b.toNat = 46
instance (b : UInt8) : Decidable (okB b) := inferInstanceAs (Decidable (_ ∨ _))
def named (s : List UInt8) : Prop := 0 < s.length ∧ s.length ≤ 32 ∧ ∀ b ∈ s, okB b
instance (s : List UInt8) : Decidable (named s) := inferInstanceAs (Decidable (_ ∧ _))
def may (w : Work) : Prop := 0 ≤ w.id ∧ w.id ≤ 2147483647 ∧ 0 ≤ w.cas ∧ w.cas ≤ 2147483647 ∧ named w.stage ∧ named w.role ∧
  ((w.state.toNat = 1 ∧ w.owner = []) ∨ ((w.state.toNat = 2 ∨ w.state.toNat = 3) ∧ named w.owner))
instance (w : Work) : Decidable (may w) := inferInstanceAs (Decidable (_ ∧ _))
/-- The piece at a place. -/
def rec (l : List Work) (i : Nat) : Work := l.getD i default
theorem rec_mem {l : List Work} {i : Nat} (h : i < l.length) : rec l i ∈ l := by
  rw [rec, List.getD_eq_getElem?_getD, List.getElem?_eq_getElem h]; exact List.getElem_mem h
theorem rec_eq {l : List Work} {i : Nat} (h : i < l.length) : l[i] = rec l i := by
  rw [rec, List.getD_eq_getElem?_getD, List.getElem?_eq_getElem h]; rfl
/-- A place where the list is as it may be. -/
def good (l : List Work) (i : Nat) : Prop := may (rec l i) ∧ (i = 0 ∨ (rec l (i - 1)).id < (rec l i).id)
instance (l : List Work) (i : Nat) : Decidable (good l i) := inferInstanceAs (Decidable (_ ∧ _))
def checkE (l : List Work) : Nat := if 512 < l.length then 4 else if ∀ i, i < l.length → good l i then 0 else 8
theorem check_many {l : List Work} (h : 512 < l.length) : checkE l = 4 := if_pos h
theorem check_bad {l : List Work} (h : ¬ 512 < l.length) {i : Nat} (hi : i < l.length) (hb : ¬ good l i) : checkE l = 8 := by
  rw [checkE, if_neg h, if_neg (fun h' => hb (h' i hi))]
theorem check_ok {l : List Work} (h : ¬ 512 < l.length) (hg : ∀ i, i < l.length → good l i) : checkE l = 0 := by
  rw [checkE, if_neg h, if_pos hg]
theorem check_zero {l : List Work} (h : checkE l = 0) : l.length ≤ 512 ∧ ∀ i, i < l.length → good l i := by
  unfold checkE at h
  split at h
  · omega
  · split at h
    · rename_i h1 h2; exact ⟨by omega, h2⟩
    · omega
def offerE (l : List Work) (w : Work) : Nat := if checkE l ≠ 0 then checkE l else if ¬ may w then 8 else if w.state.toNat ≠ 1 ∨ (0 < l.length ∧ w.id ≤ (rec l (l.length - 1)).id) then 230 else if l.length = 512 then 4 else 0
def offerL (l : List Work) (w : Work) : List Work := if offerE l w = 0 then l ++ [w] else []
/-- May a piece be turned by someone? -/
def fit (w : Work) (user : List UInt8) (from_ : Nat) : Prop := w.state.toNat = from_ ∧ (from_ = 2 → w.owner = user)
instance (w : Work) (user : List UInt8) (from_ : Nat) : Decidable (fit w user from_) := inferInstanceAs (Decidable (_ ∧ _))
def turn1 (w : Work) (user : List UInt8) (to : UInt8) : Work := { w with state := to, owner := if to.toNat = 1 then [] else user }
def at_ (l : List Work) (id : Int) : Option Nat := (List.range l.length).find? fun i => decide ((rec l i).id = id)
def turnE (l : List Work) (id : Int) (user : List UInt8) (from_ : Nat) : Nat :=
  if checkE l ≠ 0 then checkE l else if ¬ named user then 5 else match at_ l id with
  | none => 6
  | some i => if fit (rec l i) user from_ then 0 else 230
def turnL (l : List Work) (id : Int) (user : List UInt8) (from_ : Nat) (to : UInt8) : List Work :=
  if turnE l id user from_ = 0 then match at_ l id with
    | none => []
    | some i => l.set i (turn1 (rec l i) user to)
  else []
theorem at_some {l : List Work} {id : Int} {i : Nat} (hi : i < l.length) (h1 : (rec l i).id = id) (h2 : ∀ j, j < i → (rec l j).id ≠ id) : at_ l id = some i := by
  rw [at_, List.find?_range_eq_some]
  exact ⟨by simp [h1], by simpa using hi, fun j hj => by simp [h2 j hj]⟩
theorem at_none {l : List Work} {id : Int} (h : ∀ j, j < l.length → (rec l j).id ≠ id) : at_ l id = none := by
  rw [at_, List.find?_eq_none]
  intro j hj
  simp [h j (by simpa using hj)]
theorem at_cases (l : List Work) (id : Int) : (at_ l id = none ∧ ∀ j, j < l.length → (rec l j).id ≠ id) ∨ ∃ i, i < l.length ∧ at_ l id = some i ∧ (rec l i).id = id ∧ ∀ j, j < i → (rec l j).id ≠ id := by
  cases h : at_ l id with
  | none =>
    left
    rw [at_, List.find?_eq_none] at h
    exact ⟨rfl, fun j hj => by simpa using h j (by simpa using hj)⟩
  | some i =>
    right
    rw [at_, List.find?_range_eq_some] at h
    obtain ⟨h1, h2, h3⟩ := h
    exact ⟨i, by simpa using h2, rfl, by simpa using h1, fun j hj => by simpa using h3 j hj⟩
def dropped (w : Work) (c : Int) (s : List UInt8) : Prop := w.cas = c ∧ w.stage = s ∧ w.state.toNat ≠ 3
instance (w : Work) (c : Int) (s : List UInt8) : Decidable (dropped w c s) := inferInstanceAs (Decidable (_ ∧ _))
def dropL (l : List Work) (c : Int) (s : List UInt8) : List Work := if checkE l = 0 then l.filter (fun w => !decide (dropped w c s)) else []
def sees (w : Work) (user : List UInt8) (roles : List (List UInt8)) : Prop := (w.state.toNat = 1 ∧ w.role ∈ roles) ∨ (w.state.toNat = 2 ∧ w.owner = user)
instance (w : Work) (user : List UInt8) (roles : List (List UInt8)) : Decidable (sees w user roles) := inferInstanceAs (Decidable (_ ∨ _))
def seen (l : List Work) (user : List UInt8) (roles : List (List UInt8)) : List Work := l.filter (fun w => decide (sees w user roles))
def forE (l : List Work) (user : List UInt8) (roles : List (List UInt8)) (from_ count : Int) : Nat :=
  if checkE l ≠ 0 then checkE l else if ¬ named user then 5 else if 1024 < roles.length then 4 else if from_ < 0 ∨ count < 0 then 2 else 0
def forL (l : List Work) (user : List UInt8) (roles : List (List UInt8)) (from_ count : Int) : List Work :=
  if forE l user roles from_ count = 0 then ((seen l user roles).drop from_.toNat).take count.toNat else []
end Go.Wk
