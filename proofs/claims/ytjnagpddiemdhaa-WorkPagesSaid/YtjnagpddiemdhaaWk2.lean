/-
  Lists of work: what a search and a page show. No program in sight.
-/
import Derived.Test.YtjnagpddiemdhaaWk
namespace Go.Wk
theorem take_snoc {l : List Work} {i : Nat} (h : i < l.length) : l.take (i + 1) = l.take i ++ [rec l i] := by
  rw [List.take_add_one, List.getElem?_eq_getElem h, rec_eq h]; rfl
theorem seen_snoc {l : List Work} {i : Nat} (u : List UInt8) (r : List (List UInt8)) (h : i < l.length) :
    seen (l.take (i + 1)) u r = seen (l.take i) u r ++ if sees (rec l i) u r then [rec l i] else [] := by
  rw [take_snoc h, seen, seen, List.filter_append]
  by_cases hs : sees (rec l i) u r <;> simp [hs, List.filter_cons]
theorem seen_yes {l : List Work} {i : Nat} {u : List UInt8} {r : List (List UInt8)} (h : i < l.length) (hs : sees (rec l i) u r) : seen (l.take (i + 1)) u r = seen (l.take i) u r ++ [rec l i] := by
  rw [seen_snoc u r h, if_pos hs]
theorem seen_no {l : List Work} {i : Nat} {u : List UInt8} {r : List (List UInt8)} (h : i < l.length) (hs : ¬ sees (rec l i) u r) : seen (l.take (i + 1)) u r = seen (l.take i) u r := by
  rw [seen_snoc u r h, if_neg hs, List.append_nil]
theorem seen_len (l : List Work) (u : List UInt8) (r : List (List UInt8)) : (seen l u r).length ≤ l.length := List.length_filter_le _ _
theorem for_bad {l : List Work} {u : List UInt8} {r : List (List UInt8)} {f c : Int} (h : forE l u r f c ≠ 0) : forL l u r f c = [] := if_neg h
theorem for_check {l : List Work} {u : List UInt8} {r : List (List UInt8)} {f c : Int} (h : checkE l ≠ 0) : forE l u r f c = checkE l := by rw [forE, if_pos h]
theorem for_name {l : List Work} {u : List UInt8} {r : List (List UInt8)} {f c : Int} (h : checkE l = 0) (h1 : ¬ named u) : forE l u r f c = 5 := by rw [forE, if_neg (by omega), if_pos h1]
theorem for_many {l : List Work} {u : List UInt8} {r : List (List UInt8)} {f c : Int} (h : checkE l = 0) (h1 : named u) (h2 : 1024 < r.length) : forE l u r f c = 4 := by rw [forE, if_neg (by omega), if_neg (by simpa using h1), if_pos h2]
theorem for_range {l : List Work} {u : List UInt8} {r : List (List UInt8)} {f c : Int} (h : checkE l = 0) (h1 : named u) (h2 : ¬ 1024 < r.length) (h3 : f < 0 ∨ c < 0) : forE l u r f c = 2 := by
  rw [forE, if_neg (by omega), if_neg (by simpa using h1), if_neg h2, if_pos h3]
theorem for_ok {l : List Work} {u : List UInt8} {r : List (List UInt8)} {f c : Int} (h : checkE l = 0) (h1 : named u) (h2 : ¬ 1024 < r.length) (h3 : ¬ (f < 0 ∨ c < 0)) : forE l u r f c = 0 ∧ forL l u r f c = ((seen l u r).drop f.toNat).take c.toNat := by
  have e : forE l u r f c = 0 := by rw [forE, if_neg (by omega), if_neg (by simpa using h1), if_neg h2, if_neg h3]
  exact ⟨e, if_pos e⟩
/-- A page, step by step: what of the first 'i' pieces is on it. -/
def pg (S : List Work) (f c : Nat) : List Work := (S.drop f).take c
theorem pg_skip {S : List Work} {f c : Nat} (x : Work) (h : S.length < f) : pg (S ++ [x]) f c = pg S f c := by
  unfold pg
  rw [List.drop_of_length_le (by simp; omega), List.drop_of_length_le (by omega)]
theorem pg_in {S : List Work} {f c : Nat} (x : Work) (h : f ≤ S.length) (h2 : (pg S f c).length < c) : pg (S ++ [x]) f c = pg S f c ++ [x] := by
  unfold pg at *
  rw [List.drop_append_of_le_length h]
  rw [List.length_take] at h2
  rw [List.take_append, List.take_of_length_le (l := [x]) (by simp only [List.length_singleton]; omega)]
theorem pg_full {S : List Work} {f c : Nat} (T : List Work) (h : c ≤ (pg S f c).length) : pg (S ++ T) f c = pg S f c := by
  unfold pg at *
  rw [List.length_take, List.length_drop] at h
  by_cases hf : f ≤ S.length
  · rw [List.drop_append_of_le_length hf, List.take_append_of_le_length (by rw [List.length_drop]; omega)]
  · have : c = 0 := by omega
    subst this; simp
theorem seen_app (l m : List Work) (u : List UInt8) (r : List (List UInt8)) : seen (l ++ m) u r = seen l u r ++ seen m u r := by rw [seen, List.filter_append]; rfl
theorem rec_left {l m : List Work} {j : Nat} (h : j < l.length) : rec (l ++ m) j = rec l j := by
  rw [rec, rec, List.getD_eq_getElem?_getD, List.getD_eq_getElem?_getD, List.getElem?_append_left h]
theorem rec_last (l : List Work) (x : Work) : rec (l ++ [x]) l.length = x := by
  rw [rec, List.getD_eq_getElem?_getD, List.getElem?_append_right (Nat.le_refl _)]; simp
end Go.Wk
