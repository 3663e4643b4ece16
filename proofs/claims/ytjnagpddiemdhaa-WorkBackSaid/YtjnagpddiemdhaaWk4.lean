/-
  Lists of work: a piece taken, put back, done. No program in sight.
-/
import Derived.Test.YtjnagpddiemdhaaWk3
namespace Go.Wk
theorem turn_zero {l : List Work} {id : Int} {u : List UInt8} {fr : Nat} (h : turnE l id u fr = 0) : checkE l = 0 ∧ named u ∧ ∃ i, i < l.length ∧ (rec l i).id = id ∧ (∀ j, j < i → (rec l j).id ≠ id) ∧ fit (rec l i) u fr := by
  have hc : checkE l = 0 := by
    apply Classical.byContradiction; intro hn
    have := (turn_check (id := id) (u := u) (fr := fr) (to := 1) hn).1; omega
  have hu : named u := by
    apply Classical.byContradiction; intro hn
    have := (turn_name (id := id) (u := u) (fr := fr) (to := 1) hc hn).1; omega
  refine ⟨hc, hu, ?_⟩
  rcases at_cases l id with ⟨_, hn⟩ | ⟨i, hi, _, h2, h3⟩
  · have := (turn_none (fr := fr) (to := 1) hc hu hn).1; omega
  · refine ⟨i, hi, h2, h3, ?_⟩
    apply Classical.byContradiction; intro hn
    have := (turn_bad (fr := fr) (to := 1) hc hu hi h2 h3 hn).1; omega
theorem turn_empty {l : List Work} {id : Int} {u : List UInt8} {fr : Nat} {to : UInt8} (h : turnE l id u fr ≠ 0) : turnL l id u fr to = [] := if_neg h
theorem rec_set {l : List Work} {i : Nat} (x : Work) (hi : i < l.length) (j : Nat) : rec (l.set i x) j = if j = i then x else rec l j := by
  rw [rec, rec, List.getD_eq_getElem?_getD, List.getD_eq_getElem?_getD]
  by_cases h : j = i
  · subst h; rw [if_pos rfl, List.getElem?_set_self hi]; rfl
  · rw [if_neg h, List.getElem?_set_ne (by omega)]
theorem check_set {l : List Work} {i : Nat} {x : Work} (h : checkE l = 0) (hi : i < l.length) (hx : may x) (hid : x.id = (rec l i).id) : checkE (l.set i x) = 0 := by
  obtain ⟨hl, hg⟩ := check_zero h
  have hr : ∀ j, (rec (l.set i x) j).id = (rec l j).id := fun j => by
    rw [rec_set x hi]; by_cases hj : j = i
    · rw [if_pos hj, hj, hid]
    · rw [if_neg hj]
  refine check_ok (by rw [List.length_set]; omega) (fun j hj => ?_)
  rw [List.length_set] at hj
  obtain ⟨g1, g2⟩ := hg j hj
  refine ⟨?_, by rw [hr, hr]; exact g2⟩
  rw [rec_set x hi]; by_cases h2 : j = i
  · rw [if_pos h2]; exact hx
  · rw [if_neg h2]; exact g1
theorem turn1_may {x : Work} {u : List UInt8} {to : UInt8} (hx : may x) (hu : named u) (ht : to.toNat = 1 ∨ to.toNat = 2 ∨ to.toNat = 3) : may (turn1 x u to) := by
  obtain ⟨m1, m2, m3, m4, m5, m6, _⟩ := hx
  refine ⟨m1, m2, m3, m4, m5, m6, ?_⟩
  rcases ht with h | h | h
  · exact .inl ⟨h, if_pos h⟩
  · exact .inr ⟨.inl h, by show named (if to.toNat = 1 then [] else u); rw [if_neg (by omega)]; exact hu⟩
  · exact .inr ⟨.inr h, by show named (if to.toNat = 1 then [] else u); rw [if_neg (by omega)]; exact hu⟩
/-- A piece that was turned, in its list. -/
structure Turned (l : List Work) (id : Int) (u : List UInt8) (i : Nat) (to : UInt8) (L : List Work) : Prop where
  chk : checkE l = 0
  nm : named u
  lt : i < l.length
  at1 : (rec l i).id = id
  at2 : ∀ j, j < i → (rec l j).id ≠ id
  st : (rec l i).state.toNat = 1
  eq : L = l.set i (turn1 (rec l i) u to)
theorem Turned.of {l : List Work} {id : Int} {u : List UInt8} (h : turnE l id u 1 = 0) : ∃ i, Turned l id u i 2 (turnL l id u 1 2) := by
  obtain ⟨hc, hu, i, hi, h2, h3, hf⟩ := turn_zero h
  exact ⟨i, hc, hu, hi, h2, h3, hf.1, (turn_ok hc hu hi h2 h3 hf).2⟩
section
variable {l L : List Work} {id : Int} {u v : List UInt8} {i : Nat} {to : UInt8}
theorem Turned.len (t : Turned l id u i to L) : L.length = l.length := by rw [t.eq, List.length_set]
theorem Turned.here (t : Turned l id u i to L) : Wk.rec L i = turn1 (Wk.rec l i) u to := by rw [t.eq, rec_set _ t.lt, if_pos rfl]
theorem Turned.id1 (t : Turned l id u i to L) : (Wk.rec L i).id = id := by rw [t.here]; exact t.at1
theorem Turned.id2 (t : Turned l id u i to L) : ∀ j, j < i → (Wk.rec L j).id ≠ id := fun j hj => by rw [t.eq, rec_set _ t.lt, if_neg (by omega)]; exact t.at2 j hj
theorem Turned.good_ (t : Turned l id u i to L) (ht : to.toNat = 1 ∨ to.toNat = 2 ∨ to.toNat = 3) : checkE L = 0 := by
  rw [t.eq]; exact check_set t.chk t.lt (turn1_may ((check_zero t.chk).2 i t.lt).1 t.nm ht) rfl
/-- Who cannot turn it. -/
theorem Turned.no (t : Turned l id u i to L) (ht : to.toNat = 1 ∨ to.toNat = 2 ∨ to.toNat = 3) {fr : Nat} (hf : ¬ fit (turn1 (Wk.rec l i) u to) v fr) : turnE L id v fr ≠ 0 := by
  by_cases hv : named v
  · have := (turn_bad (to := 1) (t.good_ ht) hv (by rw [t.len]; exact t.lt) t.id1 t.id2 (by rw [t.here]; exact hf)).1; omega
  · have := (turn_name (id := id) (fr := fr) (to := 1) (t.good_ ht) hv).1; omega
theorem Turned.no230 (t : Turned l id u i to L) (ht : to.toNat = 1 ∨ to.toNat = 2 ∨ to.toNat = 3) {fr : Nat} (hv : named v) (hf : ¬ fit (turn1 (Wk.rec l i) u to) v fr) : turnE L id v fr = 230 :=
  (turn_bad (to := 1) (t.good_ ht) hv (by rw [t.len]; exact t.lt) t.id1 t.id2 (by rw [t.here]; exact hf)).1
theorem Turned.again (t : Turned l id u i 2 L) (to' : UInt8) : turnE L id u 2 = 0 ∧ Turned l id u i to' (turnL L id u 2 to') := by
  have h := turn_ok (to := to') (fr := 2) (t.good_ (.inr (.inl rfl))) t.nm (by rw [t.len]; exact t.lt) t.id1 t.id2 (by rw [t.here]; exact ⟨rfl, fun _ => rfl⟩)
  refine ⟨h.1, t.chk, t.nm, t.lt, t.at1, t.at2, t.st, ?_⟩
  rw [h.2, t.here, t.eq, List.set_set]; rfl
theorem Turned.back (t : Turned l id u i 1 L) : L = l := by
  have hm := ((check_zero t.chk).2 i t.lt).1
  have hs := t.st
  have ho : (Wk.rec l i).owner = [] := by
    rcases hm.2.2.2.2.2.2 with h | h
    · exact h.2
    · omega
  have hst : (Wk.rec l i).state = 1 := UInt8.toNat_inj.1 hs
  have e : turn1 (Wk.rec l i) u 1 = Wk.rec l i := by
    obtain ⟨X, hX⟩ : ∃ X, Wk.rec l i = X := ⟨_, rfl⟩
    rw [hX] at ho hst ⊢
    obtain ⟨a, b, c, d, e, f⟩ := X
    have ho' : f = [] := ho
    have hs' : e = 1 := hst
    subst ho'; subst hs'; rfl
  rw [t.eq, e, ← rec_eq t.lt, List.set_getElem_self]
theorem Turned.kept (t : Turned l id u i 3 L) (c : Int) (s : List UInt8) : Wk.rec L i ∈ dropL L c s := by
  rw [drop_ok (t.good_ (.inr (.inr rfl))), List.mem_filter]
  refine ⟨rec_mem (by rw [t.len]; exact t.lt), ?_⟩
  have : ¬ dropped (Wk.rec L i) c s := fun h => h.2.2 (by rw [t.here]; rfl)
  simpa using this
theorem Turned.one (t : Turned l id u i to L) (ht : to.toNat = 1 ∨ to.toNat = 2 ∨ to.toNat = 3) {j : Nat} (hj : j < L.length) (he : (Wk.rec L j).id = id) : j = i :=
  ids_one (check_zero (t.good_ ht)).2 hj (by rw [t.len]; exact t.lt) (by rw [he, t.id1])
end
end Go.Wk
