/-
  Sixteens in plain Lean. No program in sight.
-/
import Derived.Lib.Bytealg
namespace Go.Hex
def digits : List UInt8 := [48, 49, 50, 51, 52, 53, 54, 55, 56, 57, 97, 98, 99, 100, 101, 102]
def hx (n : Nat) : UInt8 := digits.getD n 0
def hexL (l : List UInt8) : List UInt8 := l.flatMap fun b => [hx (b.toNat / 16), hx (b.toNat % 16)]
theorem hexL_len (l : List UInt8) : (hexL l).length = 2 * l.length := by
  induction l with
  | nil => rfl
  | cons x r ih => simp only [hexL, List.flatMap_cons, List.length_append, List.length_cons, List.length_nil] at ih ⊢; omega
theorem hexL_snoc (l : List UInt8) (x : UInt8) : hexL (l ++ [x]) = hexL l ++ [hx (x.toNat / 16), hx (x.toNat % 16)] := by
  simp [hexL]
theorem take_snoc {l : List UInt8} {k : Nat} (h : k < l.length) : l.take (k + 1) = l.take k ++ [l.getD k 0] := by
  rw [List.take_add_one, List.getD_eq_getElem?_getD, List.getElem?_eq_getElem h]; rfl
theorem hexL_take {l : List UInt8} {k : Nat} (h : k < l.length) : hexL (l.take (k + 1)) = (hexL (l.take k) ++ [hx ((l.getD k 0).toNat / 16)]) ++ [hx ((l.getD k 0).toNat % 16)] := by
  rw [take_snoc h, hexL_snoc, List.append_assoc]; rfl
theorem digits_at {n : Nat} (h : n < 16) : digits[n]? = some (hx n) := by
  rw [hx, List.getD_eq_getElem?_getD, List.getElem?_eq_getElem (by exact h)]; rfl
theorem shr4 (x : UInt8) : (UInt8.ofNat (x.toNat / 2 ^ (4 : Int).toNat)).toNat = x.toNat / 16 := by
  have := UInt8.toNat_lt x
  rw [UInt8.toNat_ofNat']
  show x.toNat / 16 % 256 = _
  omega
theorem and15' : ∀ j : Fin 256, (UInt8.ofNat j.val &&& 15).toNat = j.val % 16 := by decide +kernel
theorem and15 (x : UInt8) : (x &&& 15).toNat = x.toNat % 16 := by
  have h := and15' ⟨x.toNat, UInt8.toNat_lt x⟩
  simpa using h

/-- What a sixteen is worth. -/
def worth (c : UInt8) : Option Nat := if 48 ≤ c.toNat ∧ c.toNat ≤ 57 then some (c.toNat - 48) else if 97 ≤ c.toNat ∧ c.toNat ≤ 102 then some (c.toNat - 87) else none
def wN (c : UInt8) : Nat := (worth c).getD 0
def wI (c : UInt8) : Int := match worth c with | some n => n | none => -1
theorem index_worth' : ∀ j : Fin 256, Lib.indexByte digits (UInt8.ofNat j.val) = wI (UInt8.ofNat j.val) := by decide +kernel
theorem index_worth (c : UInt8) : Lib.indexByte digits c = wI c := by
  have h := index_worth' ⟨c.toNat, UInt8.toNat_lt c⟩
  simpa using h
theorem worth_lt' : ∀ j : Fin 256, wN (UInt8.ofNat j.val) < 16 := by decide +kernel
theorem worth_lt (c : UInt8) : wN c < 16 := by
  have h := worth_lt' ⟨c.toNat, UInt8.toNat_lt c⟩
  simpa using h
theorem wI_neg (c : UInt8) : (wI c < 0) ↔ worth c = none := by
  unfold wI; cases h : worth c <;> simp
theorem wI_pos {c : UInt8} (h : ¬ wI c < 0) : wI c = (wN c : Int) := by
  unfold wI wN at *; cases hw : worth c <;> simp_all

def goodAt (l : List UInt8) (i : Nat) : Bool := (worth (l.getD i 0)).isSome
def good (l : List UInt8) : Prop := l.length % 2 = 0 ∧ ∀ i, i < l.length → goodAt l i = true
instance (l : List UInt8) : Decidable (good l) := by unfold good; infer_instance
def pairAt (l : List UInt8) (j : Nat) : UInt8 := UInt8.ofNat (16 * wN (l.getD (2 * j) 0) + wN (l.getD (2 * j + 1) 0))
def unV (l : List UInt8) : List UInt8 := (List.range (l.length / 2)).map (pairAt l)
theorem unV_len (l : List UInt8) : (unV l).length = l.length / 2 := by simp [unV]
def unL (l : List UInt8) : List UInt8 := if good l then unV l else []
def unE (l : List UInt8) : Nat := if good l then 0 else 3
theorem not_good {l : List UInt8} {i : Nat} (hi : i < l.length) (h : worth (l.getD i 0) = none) : ¬ good l := fun g => by
  have := g.2 i hi
  rw [goodAt, h] at this; cases this

/-- What the first 'k' sixteens have made of byte 'j'. -/
def stAt (l : List UInt8) (k j : Nat) : UInt8 := if 2 * j + 1 < k then pairAt l j else if 2 * j < k then UInt8.ofNat (wN (l.getD (2 * j) 0)) else 0
def st (l : List UInt8) (k : Nat) : List UInt8 := (List.range (l.length / 2)).map (stAt l k)
theorem st_len (l : List UInt8) (k : Nat) : (st l k).length = l.length / 2 := by simp [st]
theorem st_zero (l : List UInt8) : st l 0 = List.replicate (l.length / 2) 0 := by
  apply List.ext_getElem (by simp [st])
  intro i h1 h2
  simp [st, stAt]
theorem st_get {l : List UInt8} {k j : Nat} (h : j < l.length / 2) : (st l k).getD j 0 = stAt l k j := by
  rw [List.getD_eq_getElem?_getD, st, List.getElem?_map, List.getElem?_range h]; rfl
theorem shl_or : ∀ a b : Fin 16, (UInt8.ofNat ((UInt8.ofNat a.val).toNat * 2 ^ (4 : Int).toNat) ||| UInt8.ofNat b.val) = UInt8.ofNat (16 * a.val + b.val) := by decide +kernel
theorem st_step {l : List UInt8} {k : Nat} (hk : k < l.length) (he : l.length % 2 = 0) :
    (st l k).set (k / 2) (UInt8.ofNat (((st l k).getD (k / 2) 0).toNat * 2 ^ (4 : Int).toNat) ||| UInt8.ofNat (wN (l.getD k 0))) = st l (k + 1) := by
  rw [st_get (by omega)]
  apply List.ext_getElem (by simp [st])
  intro i h1 h2
  rw [List.length_set, st_len] at h1
  rw [List.getElem_set]
  split
  · rename_i hi
    subst hi
    have hw := worth_lt (l.getD k 0)
    rcases Nat.mod_two_eq_zero_or_one k with h0 | h0
    · have e1 : stAt l k (k / 2) = 0 := by rw [stAt, if_neg (by omega), if_neg (by omega)]
      have e2 : stAt l (k + 1) (k / 2) = UInt8.ofNat (wN (l.getD k 0)) := by
        rw [stAt, if_neg (by omega), if_pos (by omega), show 2 * (k / 2) = k by omega]
      have := shl_or ⟨0, by omega⟩ ⟨_, hw⟩
      simp only [st, List.getElem_map, List.getElem_range, e1, e2]
      simp
    · have e1 : stAt l k (k / 2) = UInt8.ofNat (wN (l.getD (2 * (k / 2)) 0)) := by rw [stAt, if_neg (by omega), if_pos (by omega)]
      have e2 : stAt l (k + 1) (k / 2) = pairAt l (k / 2) := by rw [stAt, if_pos (by omega)]
      have := shl_or ⟨_, worth_lt (l.getD (2 * (k / 2)) 0)⟩ ⟨_, hw⟩
      simp only [st, List.getElem_map, List.getElem_range, e1, e2, pairAt]
      rw [this, show 2 * (k / 2) + 1 = k by omega]
  · rename_i hi
    simp only [st, List.getElem_map, List.getElem_range, stAt]
    by_cases h3 : 2 * i + 1 < k
    · rw [if_pos h3, if_pos (by omega)]
    · rw [if_neg h3, if_neg (by omega), if_neg (by omega), if_neg (by omega)]
theorem st_end {l : List UInt8} (he : l.length % 2 = 0) : st l l.length = unV l := by
  apply List.ext_getElem (by simp [st, unV])
  intro i h1 h2
  rw [st_len] at h1
  simp only [st, unV, List.getElem_map, List.getElem_range, stAt]
  rw [if_pos (by omega)]

theorem wI_num {c : UInt8} (h : 48 ≤ c.toNat ∧ c.toNat ≤ 57) : wI c = (c.toNat : Int) - 48 := by
  unfold wI worth; rw [if_pos h]; simp only; omega
theorem wI_let {c : UInt8} (h0 : ¬ (48 ≤ c.toNat ∧ c.toNat ≤ 57)) (h : 97 ≤ c.toNat ∧ c.toNat ≤ 102) : wI c = (c.toNat : Int) - 97 + 10 := by
  unfold wI worth; rw [if_neg h0, if_pos h]; simp only; omega
theorem wI_no {c : UInt8} (h0 : ¬ (48 ≤ c.toNat ∧ c.toNat ≤ 57)) (h : ¬ (97 ≤ c.toNat ∧ c.toNat ≤ 102)) : wI c = -1 := by
  unfold wI worth; rw [if_neg h0, if_neg h]
theorem good_at {l : List UInt8} {i : Nat} (h : ¬ wI (l.getD i 0) < 0) : goodAt l i = true := by
  rw [wI_neg] at h
  unfold goodAt
  cases hw : worth (l.getD i 0) <;> simp_all
theorem wI_ge (c : UInt8) : -1 ≤ wI c := by unfold wI; cases worth c <;> simp
theorem wI_lt (c : UInt8) : wI c < 16 := by
  by_cases h : wI c < 0
  · omega
  · rw [wI_pos h]; have := worth_lt c; omega
/-! ## There and back -/
theorem worth_hx : ∀ n : Fin 16, worth (hx n.val) = some n.val := by decide +kernel
theorem hexL_get (l : List UInt8) {j : Nat} (h : j < l.length) : (hexL l).getD (2 * j) 0 = hx ((l.getD j 0).toNat / 16) ∧ (hexL l).getD (2 * j + 1) 0 = hx ((l.getD j 0).toNat % 16) := by
  induction l generalizing j with
  | nil => simp at h
  | cons x r ih =>
    cases j with
    | zero => exact ⟨rfl, rfl⟩
    | succ j => exact ih (by simpa using h)
theorem good_hexL (l : List UInt8) : good (hexL l) := by
  refine ⟨by rw [hexL_len]; omega, fun i hi => ?_⟩
  rw [hexL_len] at hi
  obtain ⟨h1, h2⟩ := hexL_get l (j := i / 2) (by omega)
  have hx8 := UInt8.toNat_lt (l.getD (i / 2) 0)
  unfold goodAt
  rcases Nat.mod_two_eq_zero_or_one i with h | h
  · rw [show i = 2 * (i / 2) by omega, h1, worth_hx ⟨(l.getD (i / 2) 0).toNat / 16, by omega⟩]; rfl
  · rw [show i = 2 * (i / 2) + 1 by omega, h2, worth_hx ⟨(l.getD (i / 2) 0).toNat % 16, by omega⟩]; rfl
theorem unV_hexL (l : List UInt8) : unV (hexL l) = l := by
  apply List.ext_getElem (by simp [unV, hexL_len])
  intro j h1 h2
  rw [unV_len, hexL_len] at h1
  obtain ⟨g1, g2⟩ := hexL_get l (j := j) (by omega)
  have hx8 := UInt8.toNat_lt (l.getD j 0)
  have e : l.getD j 0 = l[j] := by rw [List.getD_eq_getElem?_getD, List.getElem?_eq_getElem h2]; rfl
  simp only [unV, List.getElem_map, List.getElem_range, pairAt]
  rw [g1, g2, wN, wN, worth_hx ⟨(l.getD j 0).toNat / 16, by omega⟩, worth_hx ⟨(l.getD j 0).toNat % 16, by omega⟩]
  simp only [Option.getD_some]
  rw [e] at hx8 ⊢
  apply UInt8.toNat.inj
  rw [UInt8.toNat_ofNat']; omega
theorem hx_worth' : ∀ j : Fin 256, goodAt [UInt8.ofNat j.val] 0 = true → hx (wN (UInt8.ofNat j.val)) = UInt8.ofNat j.val := by decide +kernel
theorem hx_worth {c : UInt8} (h : (worth c).isSome = true) : hx (wN c) = c := by
  have g := hx_worth' ⟨c.toNat, UInt8.toNat_lt c⟩ (by simpa [goodAt] using h)
  simpa using g
theorem hexL_unV {l : List UInt8} (h : good l) : hexL (unV l) = l := by
  have hl : (hexL (unV l)).length = l.length := by rw [hexL_len, unV_len]; have := h.1; omega
  apply List.ext_getElem hl
  intro i h1 h2
  have hi : i / 2 < (unV l).length := by rw [unV_len]; have := h.1; omega
  obtain ⟨g1, g2⟩ := hexL_get (unV l) hi
  have hg := h.2 i h2
  have e : l.getD i 0 = l[i] := by rw [List.getD_eq_getElem?_getD, List.getElem?_eq_getElem h2]; rfl
  have e' : (hexL (unV l)).getD i 0 = (hexL (unV l))[i] := by rw [List.getD_eq_getElem?_getD, List.getElem?_eq_getElem h1]; rfl
  rw [← e, ← e']
  have hp : (unV l).getD (i / 2) 0 = pairAt l (i / 2) := by
    rw [unV_len] at hi
    rw [List.getD_eq_getElem?_getD, unV, List.getElem?_map, List.getElem?_range hi]; rfl
  rw [hp] at g1 g2
  have w1 := worth_lt (l.getD (2 * (i / 2)) 0)
  have w2 := worth_lt (l.getD (2 * (i / 2) + 1) 0)
  have hpn : (pairAt l (i / 2)).toNat = 16 * wN (l.getD (2 * (i / 2)) 0) + wN (l.getD (2 * (i / 2) + 1) 0) := by
    rw [pairAt, UInt8.toNat_ofNat']; omega
  rw [hpn] at g1 g2
  rcases Nat.mod_two_eq_zero_or_one i with h0 | h0
  · rw [show i = 2 * (i / 2) by omega, g1, show (16 * wN (l.getD (2 * (i / 2)) 0) + wN (l.getD (2 * (i / 2) + 1) 0)) / 16 = wN (l.getD (2 * (i / 2)) 0) by omega]
    apply hx_worth
    rw [← show i = 2 * (i / 2) by omega]; exact hg
  · rw [show i = 2 * (i / 2) + 1 by omega, g2, show (16 * wN (l.getD (2 * (i / 2)) 0) + wN (l.getD (2 * (i / 2) + 1) 0)) % 16 = wN (l.getD (2 * (i / 2) + 1) 0) by omega]
    apply hx_worth
    rw [← show i = 2 * (i / 2) + 1 by omega]; exact hg
end Go.Hex
