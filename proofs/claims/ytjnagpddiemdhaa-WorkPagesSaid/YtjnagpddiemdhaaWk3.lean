/-
  Lists of work: what an offer and a turn come to. No program in sight.
-/
import Derived.Test.YtjnagpddiemdhaaWk2
namespace Go.Wk
def te (x : Work) (u : List UInt8) (fr : Nat) : Nat := if fit x u fr then 0 else 230
def tw (x : Work) (u : List UInt8) (fr : Nat) (to : UInt8) (o : List UInt8) : Work := if fit x u fr then { x with state := to, owner := o } else x
theorem te_yes {x : Work} {u : List UInt8} {fr : Nat} (h : fit x u fr) : te x u fr = 0 := if_pos h
theorem te_no {x : Work} {u : List UInt8} {fr : Nat} (h : ¬ fit x u fr) : te x u fr = 230 := if_neg h
theorem tw_yes {x : Work} {u o : List UInt8} {fr : Nat} {to : UInt8} (h : fit x u fr) : tw x u fr to o = { x with state := to, owner := o } := if_pos h
theorem tw_no {x : Work} {u o : List UInt8} {fr : Nat} {to : UInt8} (h : ¬ fit x u fr) : tw x u fr to o = x := if_neg h
def tdE (l : List Work) (id : Int) (te : Work → Nat) : Nat := match at_ l id with | none => 6 | some i => te (rec l i)
def tdL (l : List Work) (id : Int) (te : Work → Nat) (tw : Work → Work) : List Work := match at_ l id with | none => [] | some i => if te (rec l i) = 0 then l.set i (tw (rec l i)) else []
theorem td_none {l : List Work} {id : Int} {te : Work → Nat} {tw : Work → Work} (h : ∀ j, j < l.length → (rec l j).id ≠ id) : tdE l id te = 6 ∧ tdL l id te tw = [] := by
  rw [tdE, tdL, at_none h]; exact ⟨rfl, rfl⟩
theorem td_bad {l : List Work} {id : Int} {te : Work → Nat} {tw : Work → Work} {i : Nat} (hi : i < l.length) (h1 : (rec l i).id = id) (h2 : ∀ j, j < i → (rec l j).id ≠ id) (h3 : te (rec l i) ≠ 0) : tdE l id te = te (rec l i) ∧ tdL l id te tw = [] := by
  rw [tdE, tdL, at_some hi h1 h2]; exact ⟨rfl, if_neg h3⟩
theorem td_ok {l : List Work} {id : Int} {te : Work → Nat} {tw : Work → Work} {i : Nat} (hi : i < l.length) (h1 : (rec l i).id = id) (h2 : ∀ j, j < i → (rec l j).id ≠ id) (h3 : te (rec l i) = 0) : tdE l id te = 0 ∧ tdL l id te tw = l.set i (tw (rec l i)) := by
  rw [tdE, tdL, at_some hi h1 h2]; exact ⟨h3, if_pos h3⟩
theorem turn_check {l : List Work} {id : Int} {u : List UInt8} {fr : Nat} {to : UInt8} (h : checkE l ≠ 0) : turnE l id u fr = checkE l ∧ turnL l id u fr to = [] := by
  have e : turnE l id u fr = checkE l := if_pos h
  exact ⟨e, if_neg (by omega)⟩
theorem turn_name {l : List Work} {id : Int} {u : List UInt8} {fr : Nat} {to : UInt8} (h : checkE l = 0) (h1 : ¬ named u) : turnE l id u fr = 5 ∧ turnL l id u fr to = [] := by
  have e : turnE l id u fr = 5 := by rw [turnE, if_neg (by omega), if_pos h1]
  exact ⟨e, if_neg (by omega)⟩
theorem turn_none {l : List Work} {id : Int} {u : List UInt8} {fr : Nat} {to : UInt8} (h : checkE l = 0) (h1 : named u) (h2 : ∀ j, j < l.length → (rec l j).id ≠ id) : turnE l id u fr = 6 ∧ turnL l id u fr to = [] := by
  have e : turnE l id u fr = 6 := by rw [turnE, if_neg (by omega), if_neg (by simpa using h1), at_none h2]
  exact ⟨e, if_neg (by omega)⟩
theorem turn_bad {l : List Work} {id : Int} {u : List UInt8} {fr : Nat} {to : UInt8} {i : Nat} (h : checkE l = 0) (h1 : named u) (hi : i < l.length) (h2 : (rec l i).id = id) (h3 : ∀ j, j < i → (rec l j).id ≠ id) (h4 : ¬ fit (rec l i) u fr) : turnE l id u fr = 230 ∧ turnL l id u fr to = [] := by
  have e : turnE l id u fr = 230 := by rw [turnE, if_neg (by omega), if_neg (by simpa using h1), at_some hi h2 h3]; exact if_neg h4
  exact ⟨e, if_neg (by omega)⟩
theorem turn_ok {l : List Work} {id : Int} {u : List UInt8} {fr : Nat} {to : UInt8} {i : Nat} (h : checkE l = 0) (h1 : named u) (hi : i < l.length) (h2 : (rec l i).id = id) (h3 : ∀ j, j < i → (rec l j).id ≠ id) (h4 : fit (rec l i) u fr) : turnE l id u fr = 0 ∧ turnL l id u fr to = l.set i (turn1 (rec l i) u to) := by
  have e : turnE l id u fr = 0 := by rw [turnE, if_neg (by omega), if_neg (by simpa using h1), at_some hi h2 h3]; exact if_pos h4
  exact ⟨e, by rw [turnL, if_pos e, at_some hi h2 h3]⟩
/-- The impl's way: with 'te' and 'tw'. -/
theorem turn_td {l : List Work} {id : Int} {u o : List UInt8} {fr : Nat} {to : UInt8} (h : checkE l = 0) (h1 : named u) (ho : o = if to.toNat = 1 then [] else u) :
    turnE l id u fr = tdE l id (fun x => te x u fr) ∧ turnL l id u fr to = tdL l id (fun x => te x u fr) (fun x => tw x u fr to o) := by
  rcases at_cases l id with ⟨_, hn⟩ | ⟨i, hi, _, h2, h3⟩
  · obtain ⟨a1, a2⟩ := turn_none (u := u) (fr := fr) (to := to) h h1 hn
    obtain ⟨b1, b2⟩ := td_none (te := fun x => te x u fr) (tw := fun x => tw x u fr to o) hn
    rw [a1, a2, b1, b2]; exact ⟨rfl, rfl⟩
  · by_cases hf : fit (rec l i) u fr
    · obtain ⟨a1, a2⟩ := turn_ok (to := to) h h1 hi h2 h3 hf
      obtain ⟨b1, b2⟩ := td_ok (te := fun x => te x u fr) (tw := fun x => tw x u fr to o) hi h2 h3 (te_yes hf)
      rw [a1, a2, b1, b2]
      refine ⟨rfl, ?_⟩
      show l.set i _ = l.set i (tw (rec l i) u fr to o)
      rw [tw_yes hf, turn1, ho]
    · obtain ⟨a1, a2⟩ := turn_bad (to := to) h h1 hi h2 h3 hf
      have hn : te (rec l i) u fr = 230 := te_no hf
      obtain ⟨b1, b2⟩ := td_bad (te := fun x => te x u fr) (tw := fun x => tw x u fr to o) hi h2 h3 (show te (rec l i) u fr ≠ 0 by omega)
      rw [a1, a2, b1, b2]; exact ⟨hn.symm, rfl⟩
theorem ids_lt {l : List Work} (h : ∀ i, i < l.length → good l i) : ∀ j i, i < j → j < l.length → (rec l i).id < (rec l j).id
  | 0, i, hi, _ => by omega
  | j + 1, i, hi, hj => by
    have h1 := (h (j + 1) hj).2
    rcases h1 with h1 | h1
    · omega
    · rw [Nat.add_sub_cancel] at h1
      rcases Nat.lt_or_ge i j with h2 | h2
      · have := ids_lt h j i h2 (by omega); omega
      · rw [show i = j by omega]; exact h1
theorem ids_one {l : List Work} (h : ∀ i, i < l.length → good l i) {i j : Nat} (hi : i < l.length) (hj : j < l.length) (he : (rec l i).id = (rec l j).id) : i = j := by
  rcases Nat.lt_trichotomy i j with h1 | h1 | h1
  · have := ids_lt h j i h1 hj; omega
  · exact h1
  · have := ids_lt h i j h1 hi; omega
/-- What the reference's list comes to: each piece of that id turned. -/
def tmap (l : List Work) (id : Int) (u : List UInt8) (to : UInt8) : List Work := l.map fun x => if x.id = id then turn1 x u to else x
theorem tmap_snoc {l : List Work} {i : Nat} (id : Int) (u : List UInt8) (to : UInt8) (h : i < l.length) : tmap (l.take (i + 1)) id u to = tmap (l.take i) id u to ++ [if (rec l i).id = id then turn1 (rec l i) u to else rec l i] := by
  rw [take_snoc h, tmap, tmap, List.map_append]; rfl
theorem tmap_set {l : List Work} (hg : ∀ i, i < l.length → good l i) {i : Nat} (hi : i < l.length) (id : Int) (u : List UInt8) (to : UInt8) (h : (rec l i).id = id) : tmap l id u to = l.set i (turn1 (rec l i) u to) := by
  apply List.ext_getElem (by simp [tmap])
  intro j h1 h2
  rw [List.length_set] at h2
  simp only [tmap, List.getElem_map, List.getElem_set]
  rw [rec_eq h2]
  by_cases hj : i = j
  · subst hj; rw [if_pos h, if_pos rfl]
  · rw [if_neg hj, if_neg (fun h3 => hj (ids_one hg hi h2 (by rw [h, h3])))]
theorem offer_check {l : List Work} {x : Work} (h : checkE l ≠ 0) : offerE l x = checkE l ∧ offerL l x = [] := by
  have e : offerE l x = checkE l := if_pos h
  exact ⟨e, if_neg (by omega)⟩
theorem offer_may {l : List Work} {x : Work} (h : checkE l = 0) (h1 : ¬ may x) : offerE l x = 8 ∧ offerL l x = [] := by
  have e : offerE l x = 8 := by rw [offerE, if_neg (by omega), if_pos h1]
  exact ⟨e, if_neg (by omega)⟩
theorem offer_fit {l : List Work} {x : Work} (h : checkE l = 0) (h1 : may x) (h2 : x.state.toNat ≠ 1 ∨ (0 < l.length ∧ x.id ≤ (rec l (l.length - 1)).id)) : offerE l x = 230 ∧ offerL l x = [] := by
  have e : offerE l x = 230 := by rw [offerE, if_neg (by omega), if_neg (by simpa using h1), if_pos h2]
  exact ⟨e, if_neg (by omega)⟩
theorem offer_many {l : List Work} {x : Work} (h : checkE l = 0) (h1 : may x) (h2 : ¬ (x.state.toNat ≠ 1 ∨ (0 < l.length ∧ x.id ≤ (rec l (l.length - 1)).id))) (h3 : l.length = 512) : offerE l x = 4 ∧ offerL l x = [] := by
  have e : offerE l x = 4 := by rw [offerE, if_neg (by omega), if_neg (by simpa using h1), if_neg h2, if_pos h3]
  exact ⟨e, if_neg (by omega)⟩
theorem offer_ok {l : List Work} {x : Work} (h : checkE l = 0) (h1 : may x) (h2 : ¬ (x.state.toNat ≠ 1 ∨ (0 < l.length ∧ x.id ≤ (rec l (l.length - 1)).id))) (h3 : ¬ l.length = 512) : offerE l x = 0 ∧ offerL l x = l ++ [x] := by
  have e : offerE l x = 0 := by rw [offerE, if_neg (by omega), if_neg (by simpa using h1), if_neg h2, if_neg h3]
  exact ⟨e, if_pos e⟩
theorem drop_check {l : List Work} {c : Int} {s : List UInt8} (h : checkE l ≠ 0) : dropL l c s = [] := if_neg h
theorem drop_ok {l : List Work} {c : Int} {s : List UInt8} (h : checkE l = 0) : dropL l c s = l.filter (fun w => !decide (dropped w c s)) := if_pos h
end Go.Wk
