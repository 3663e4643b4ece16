/-
  Parts and keys compared, in plain Lean. No program in sight.
-/
import GoSem.Op.String
namespace Go.Key
structure Part where
  kind : UInt8
  int : Int
  text : List UInt8
  deriving DecidableEq, Inhabited
def cmpI (a b : Int) : Int := if a < b then -1 else if b < a then 1 else 0
def cmpS (l m : List UInt8) : Int := if Op.bytesLess l m = true then -1 else if Op.bytesLess l m = true ∨ l = m then 0 else 1
/-- The first that is not 0. -/
def orI : List Int → Int
  | [] => 0
  | a :: r => if a ≠ 0 then a else orI r
def cmpP (x y : Part) : Int := orI [cmpI x.kind.toNat y.kind.toNat, cmpI x.int y.int, cmpS x.text y.text]
def lessP (x y : Part) : Prop := if x.kind ≠ y.kind then x.kind.toNat < y.kind.toNat else if x.int ≠ y.int then x.int < y.int else Op.bytesLess x.text y.text = true
instance (x y : Part) : Decidable (lessP x y) := by unfold lessP; infer_instance

theorem bl_irrefl : ∀ l : List UInt8, Op.bytesLess l l = false
  | [] => rfl
  | a :: r => by simp [Op.bytesLess, bl_irrefl r]
theorem cmpI_neg {a b : Int} : cmpI a b < 0 ↔ a < b := by unfold cmpI; split <;> (try split) <;> omega
theorem cmpI_zero {a b : Int} : cmpI a b = 0 ↔ a = b := by unfold cmpI; split <;> (try split) <;> omega
theorem cmpS_neg {l m : List UInt8} : cmpS l m < 0 ↔ Op.bytesLess l m = true := by
  unfold cmpS
  split
  · simp_all
  · split <;> simp_all
theorem cmpS_zero {l m : List UInt8} : cmpS l m = 0 ↔ l = m := by
  unfold cmpS
  split
  · rename_i h
    constructor
    · intro h'; omega
    · rintro rfl; rw [bl_irrefl] at h; cases h
  · rename_i h
    split
    · rename_i h'
      exact ⟨fun _ => h'.resolve_left h, fun _ => rfl⟩
    · rename_i h'
      exact ⟨fun e => by omega, fun e => (h' (.inr e)).elim⟩
theorem kind_eq {x y : UInt8} : (x.toNat : Int) = (y.toNat : Int) ↔ x = y := by
  constructor
  · intro h; apply UInt8.toNat.inj; omega
  · rintro rfl; rfl
theorem cmpP_zero {x y : Part} : cmpP x y = 0 ↔ x = y := by
  unfold cmpP orI orI orI orI
  obtain ⟨k, i, t⟩ := x
  obtain ⟨k', i', t'⟩ := y
  simp only [Part.mk.injEq]
  by_cases h1 : cmpI (k.toNat : Int) (k'.toNat : Int) = 0
  · rw [if_neg (by simpa using h1)]
    have e1 := kind_eq.1 (cmpI_zero.1 h1)
    by_cases h2 : cmpI i i' = 0
    · rw [if_neg (by simpa using h2)]
      have e2 := cmpI_zero.1 h2
      by_cases h3 : cmpS t t' = 0
      · rw [if_neg (by simpa using h3)]
        have e3 := cmpS_zero.1 h3
        simp [e1, e2, e3]
      · rw [if_pos h3]
        exact ⟨fun h => (h3 h).elim, fun h => (h3 (cmpS_zero.2 h.2.2)).elim⟩
    · rw [if_pos h2]
      exact ⟨fun h => (h2 h).elim, fun h => (h2 (cmpI_zero.2 h.2.1)).elim⟩
  · rw [if_pos h1]
    exact ⟨fun h => (h1 h).elim, fun h => (h1 (cmpI_zero.2 (kind_eq.2 h.1))).elim⟩
theorem cmpP_neg {x y : Part} : cmpP x y < 0 ↔ lessP x y := by
  unfold cmpP lessP orI orI orI orI
  by_cases h1 : cmpI (x.kind.toNat : Int) (y.kind.toNat : Int) = 0
  · have e1 : ¬ (x.kind ≠ y.kind) := fun h => h (kind_eq.1 (cmpI_zero.1 h1))
    have c1 : ¬ (cmpI (x.kind.toNat : Int) (y.kind.toNat : Int) ≠ 0) := fun h => h h1
    rw [if_neg c1, if_neg e1]
    by_cases h2 : cmpI x.int y.int = 0
    · have e2 : ¬ (x.int ≠ y.int) := fun h => h (cmpI_zero.1 h2)
      have c2 : ¬ (cmpI x.int y.int ≠ 0) := fun h => h h2
      rw [if_neg c2, if_neg e2]
      by_cases h3 : cmpS x.text y.text = 0
      · have c3 : ¬ (cmpS x.text y.text ≠ 0) := fun h => h h3
        rw [if_neg c3, ← cmpS_neg, h3]
      · have c3 : cmpS x.text y.text ≠ 0 := h3
        rw [if_pos c3, cmpS_neg]
    · have c2 : cmpI x.int y.int ≠ 0 := h2
      have e2 : x.int ≠ y.int := fun e => h2 (cmpI_zero.2 e)
      rw [if_pos c2, if_pos e2, cmpI_neg]
  · have c1 : cmpI (x.kind.toNat : Int) (y.kind.toNat : Int) ≠ 0 := h1
    have e1 : x.kind ≠ y.kind := fun e => h1 (cmpI_zero.2 (kind_eq.2 e))
    rw [if_pos c1, if_pos e1, cmpI_neg]
    omega

theorem lessP_kind {x y : Part} (h : x.kind ≠ y.kind) : lessP x y ↔ (x.kind.toNat : Int) < (y.kind.toNat : Int) := by
  unfold lessP; rw [if_pos h]; omega
theorem lessP_int {x y : Part} (h : ¬ (x.kind ≠ y.kind)) (h2 : x.int ≠ y.int) : lessP x y ↔ x.int < y.int := by
  unfold lessP; rw [if_neg h, if_pos h2]
theorem lessP_text {x y : Part} (h : ¬ (x.kind ≠ y.kind)) (h2 : ¬ (x.int ≠ y.int)) : lessP x y ↔ Op.bytesLess x.text y.text = true := by
  unfold lessP; rw [if_neg h, if_neg h2]
def cmpL : List Part → List Part → Int
  | [], [] => 0
  | [], _ :: _ => -1
  | _ :: _, [] => 1
  | x :: r, y :: s => if cmpP x y ≠ 0 then cmpP x y else cmpL r s
def lessL : List Part → List Part → Prop
  | [], [] => False
  | [], _ :: _ => True
  | _ :: _, [] => False
  | x :: r, y :: s => if x ≠ y then lessP x y else lessL r s
theorem cmpL_neg : ∀ (a b : List Part), cmpL a b < 0 ↔ lessL a b
  | [], [] => by simp [cmpL, lessL]
  | [], _ :: _ => by simp [cmpL, lessL]
  | _ :: _, [] => by simp [cmpL, lessL]
  | x :: r, y :: s => by
    unfold cmpL lessL
    by_cases h : x = y
    · rw [if_neg (by simpa using cmpP_zero.2 h), if_neg (by simpa using h)]; exact cmpL_neg r s
    · rw [if_pos (fun e => h (cmpP_zero.1 e)), if_pos h]; exact cmpP_neg
theorem drop_at {α : Type} {l : List α} {k : Nat} (h : k < l.length) : l.drop k = l[k] :: l.drop (k + 1) := List.drop_eq_getElem_cons h

/-! ## What is behind all that begin so -/
/-- How many bytes are left when the last ones that are 255 are struck. -/
def aft (l : List UInt8) : Nat → Nat
  | 0 => 0
  | n + 1 => if (l.getD n 0).toNat = 255 then aft l n else n + 1
def aftB (l : List UInt8) : Prop := aft l l.length ≠ 0
instance (l : List UInt8) : Decidable (aftB l) := by unfold aftB; infer_instance
def aftS (l : List UInt8) : List UInt8 := if aft l l.length = 0 then [] else l.take (aft l l.length - 1) ++ [l.getD (aft l l.length - 1) 0 + 1]
theorem take_getD {l : List UInt8} {k j : Nat} (h : j < k) : (l.take k).getD j 0 = l.getD j 0 := by
  rw [List.getD_eq_getElem?_getD, List.getElem?_take, if_pos h, List.getD_eq_getElem?_getD]
theorem aft_step {l : List UInt8} {k : Nat} (h0 : 0 < k) (h : (l.getD (k - 1) 0).toNat = 255) : aft l k = aft l (k - 1) := by
  obtain ⟨n, rfl⟩ : ∃ n, k = n + 1 := ⟨k - 1, by omega⟩
  rw [aft, if_pos (by simpa using h)]; rfl
theorem aft_stop {l : List UInt8} {k : Nat} (h : ¬ (0 < k ∧ (l.getD (k - 1) 0).toNat = 255)) : aft l k = k := by
  cases k with
  | zero => rfl
  | succ n => rw [aft, if_neg (fun e => h ⟨by omega, by simpa using e⟩)]
theorem set_last {α : Type} (f : UInt8 → α) {l : List UInt8} {k : Nat} (h0 : 0 < k) (hk : k ≤ l.length) (x : UInt8) : ((l.take k).map f).set (k - 1) (f x) = (l.take (k - 1) ++ [x]).map f := by
  obtain ⟨n, rfl⟩ : ∃ n, k = n + 1 := ⟨k - 1, by omega⟩
  have e : l.take (n + 1) = l.take n ++ [l[n]] := by rw [List.take_add_one, List.getElem?_eq_getElem (by omega)]; rfl
  rw [e, Nat.add_sub_cancel, ← List.map_set, List.set_append, if_neg (by simp; omega)]
  have : n - (l.take n).length = 0 := by simp; omega
  rw [this]; rfl
end Go.Key
