/-
  The library's replacing and cutting at a 0, as keys have it: in plain Lean. No program in sight.
-/
import Derived.Test.YtkgckmdhlokjmaaDoorParts
import Derived.Lib.Replace
namespace Go.Key
open Go.Lib (index count cut replaceK replaceAll replace replaceNum)
theorem index_nil : index [] [0] = -1 := rfl
theorem index_zero (l : List UInt8) : index (0 :: l) [0] = 0 := by simp [index]
theorem index_other {b : UInt8} (h : ¬ b = 0) (l : List UInt8) : index (b :: l) [0] = if index l [0] = -1 then -1 else index l [0] + 1 := by
  rw [index, if_neg (by simp [List.isPrefixOf]; exact fun e => h e.symm)]
  simp
theorem repl_other {b : UInt8} (h : ¬ b = 0) (new : List UInt8) (k : Nat) (l : List UInt8) : replaceK [0] new k (b :: l) = b :: replaceK [0] new k l := by
  cases k with
  | zero => rfl
  | succ k =>
    rw [replaceK, replaceK, index_other h]
    by_cases hi : index l [0] = -1
    · rw [if_pos hi, if_pos (by simp), if_pos (by rw [hi]; rfl)]
    · have hge := Go.Lib.index_ge l [0]
      obtain ⟨i, hi2⟩ : ∃ i : Nat, index l [0] = i := ⟨(index l [0]).toNat, by omega⟩
      rw [if_neg hi, hi2, if_neg (by simp; omega), if_neg (by simp)]
      have e1 : ((i : Int) + 1).toNat = i + 1 := by omega
      rw [e1, Int.toNat_natCast, List.take_succ_cons]
      rfl
theorem repl_zero (new : List UInt8) (k : Nat) (l : List UInt8) : replaceK [0] new (k + 1) (0 :: l) = new ++ replaceK [0] new k l := by
  rw [replaceK, index_zero, if_neg (by decide)]
  rfl
theorem repl_esc : ∀ s : List UInt8, replaceK [0] [0, 255] (count s [0]) s = esc s
  | [] => by rw [Go.Lib.count_one]; rfl
  | b :: l => by
    by_cases h : b = 0
    · subst h
      rw [Go.Lib.count_cons_eq, Nat.add_comm, repl_zero, repl_esc l, esc, if_pos rfl]; rfl
    · rw [Go.Lib.count_cons_ne _ _ _ h, repl_other h, repl_esc l, esc, if_neg h]
theorem repl_all (s : List UInt8) : replaceAll s [0] [0, 255] = esc s := by
  rw [replaceAll, replace, if_neg (by decide), replaceNum, if_pos (.inl (by decide)), repl_esc]
theorem cut_nil : cut [] [0] = ([], [], false) := rfl
theorem cut_zero (l : List UInt8) : cut (0 :: l) [0] = ([], l, true) := by
  rw [cut, index_zero, if_pos (by decide)]; rfl
theorem cut_other {b : UInt8} (h : ¬ b = 0) (l : List UInt8) : cut (b :: l) [0] = (b :: (cut l [0]).1, (cut l [0]).2.1, (cut l [0]).2.2) := by
  rw [cut, cut, index_other h]
  have hge := Go.Lib.index_ge l [0]
  by_cases hi : index l [0] = -1
  · rw [if_pos hi, if_neg (by decide), if_neg (by omega)]
  · obtain ⟨i, hi2⟩ : ∃ i : Nat, index l [0] = i := ⟨(index l [0]).toNat, by omega⟩
    rw [if_neg hi, hi2, if_pos (by omega), if_pos (by omega)]
    have e1 : ((i : Int) + 1).toNat = i + 1 := by omega
    rw [e1, Int.toNat_natCast, List.take_succ_cons]
    rfl
/-- One round of the text's reader. -/
theorem unesc_cut : ∀ s : List UInt8, unesc s = if (cut s [0]).2.2 = false ∨ (cut s [0]).2.1 = [] then none else
    match (cut s [0]).2.1 with
    | [] => none
    | d :: u => if d = 1 then some ((cut s [0]).1, u) else if d = 255 then (unesc u).map (fun p => ((cut s [0]).1 ++ 0 :: p.1, p.2)) else none
  | [] => rfl
  | b :: l => by
    by_cases h : b = 0
    · subst h
      rw [cut_zero]
      cases l with
      | nil => rw [unesc.eq_def]; rfl
      | cons d u => rw [unesc_zero]; simp
    · rw [unesc_other h, unesc_cut l, cut_other h]
      by_cases h2 : (cut l [0]).2.2 = false ∨ (cut l [0]).2.1 = []
      · rw [if_pos h2, if_pos h2]; rfl
      · rw [if_neg h2, if_neg h2]
        dsimp only
        rcases (cut l [0]).2.1 with _ | ⟨d, u⟩
        · rfl
        · dsimp only
          by_cases hd : d = 1
          · rw [if_pos hd, if_pos hd]; rfl
          · rw [if_neg hd, if_neg hd]
            by_cases hd2 : d = 255
            · rw [if_pos hd2, if_pos hd2, Option.map_map]; rfl
            · rw [if_neg hd2, if_neg hd2]; rfl
end Go.Key
