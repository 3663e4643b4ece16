/-
  The lane, part J: a row of one-cell elements of which a beginning is known.
  Generic in the program.
-/
import Derived.Test.YtkgckmdhlokjmaaDoorLaneI
namespace Go.Lane
section
variable {α : Type} {f : α → Value} {w w' : World} {b n : Nat} {t : TypeId} {l : List α}

/-- Block 'b' has 'n' cells, the first of which hold 'l'. -/
def ArrL (f : α → Value) (w : World) (b : Nat) (t : TypeId) (n : Nat) (l : List α) : Prop := ∃ cur : Array Value, cur.size = n ∧ Has w b cur t (0, 0) ∧ ∀ (j : Nat) (x : α), l[j]? = some x → cur[j]? = some (f x)
theorem ArrL.get (h : ArrL f w b t n l) {j : Nat} {x : α} (hx : l[j]? = some x) : w.cell? ⟨b, 0 + j * 1, none⟩ = some (f x) := by
  obtain ⟨cur, _, hh, hg⟩ := h
  rw [hh.cell, Nat.zero_add, Nat.mul_one, hg j x hx]
theorem ArrL.ch {S : List Nat} (h : ArrL f w b t n l) (hc : Ch S w w') (hb : b ∉ S) : ArrL f w' b t n l := by
  obtain ⟨cur, h1, h2, h3⟩ := h
  exact ⟨cur, h1, h2.ch hc hb, h3⟩
theorem ArrL.ch0 (h : ArrL f w b t n l) (hc : Ch [] w w') : ArrL f w' b t n l := h.ch hc (by simp)
theorem ArrL.nil {cur : Array Value} (h : Has w b cur t (0, 0)) (hn : cur.size = n) : ArrL f w b t n [] := ⟨cur, hn, h, fun j x hx => by simp at hx⟩
theorem ArrL.ofFull (h : Has w b (l.map f).toArray t (0, 0)) (hn : l.length = n) : ArrL f w b t n l := ⟨_, by simp [hn], h, fun j x hx => by rw [List.getElem?_toArray, List.getElem?_map, hx]; rfl⟩
theorem ArrL.full (h : ArrL f w b t n l) (hn : l.length = n) : Has w b (l.map f).toArray t (0, 0) := by
  obtain ⟨cur, h1, h2, h3⟩ := h
  have e : cur = (l.map f).toArray := by
    apply Array.ext_getElem?
    intro j
    rw [show (l.map f).toArray[j]? = (l.map f)[j]? from List.getElem?_toArray, List.getElem?_map]
    rcases Nat.lt_or_ge j l.length with hj | hj
    · rw [List.getElem?_eq_getElem hj, h3 j _ (List.getElem?_eq_getElem hj)]; rfl
    · rw [List.getElem?_eq_none hj, Array.getElem?_eq_none (by omega)]; rfl
  rw [← e]; exact h2
theorem arr_push {cur : Array Value} (h : ∀ (j : Nat) (x : α), l[j]? = some x → cur[j]? = some (f x)) (hl : l.length < cur.size) (y : α) : ∀ (j : Nat) (x : α), (l ++ [y])[j]? = some x → (cur.setIfInBounds l.length (f y))[j]? = some (f x) := by
  intro j x hx
  rw [Array.getElem?_setIfInBounds]
  rcases Nat.lt_or_ge j l.length with hj | hj
  · rw [if_neg (by omega)]
    rw [List.getElem?_append_left hj] at hx
    exact h j x hx
  · have e : j = l.length := by
      have := (List.getElem?_eq_some_iff.1 hx).1
      simp at this; omega
    subst e
    rw [if_pos rfl, if_pos hl]
    rw [List.getElem?_append_right (Nat.le_refl _)] at hx
    simp at hx; rw [hx]
theorem arr_keep {cur : Array Value} (h : ∀ (j : Nat) (x : α), l[j]? = some x → cur[j]? = some (f x)) {i : Nat} (hi : l.length ≤ i) (v : Value) : ∀ (j : Nat) (x : α), l[j]? = some x → (cur.setIfInBounds i v)[j]? = some (f x) := by
  intro j x hx
  have hj := (List.getElem?_eq_some_iff.1 hx).1
  rw [Array.getElem?_setIfInBounds, if_neg (by omega)]
  exact h j x hx
end
end Go.Lane
