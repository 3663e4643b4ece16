/-
  An argument that is a slice of slices of entries: its rows, and how many entries they have together where the second form's bound holds.
-/
import Derived.Test.YtilnoklpikblgaaRows
import Derived.Test.YtilnoklpikblgaaE4
import Derived.Deep.Slices
namespace Go.Proofs.Ytilnoklpikblgaa
open Go.Lane Go.ChangeShapes Go.WideShapes Go.RowKit Go.Deep
variable {H : Type} {enc : TypeId × Value → H} {w : World} {held : Bool}
theorem bulk_one (d : DataW H) : 1 ≤ Rows.uptoBulk d := by
  cases d with
  | lit l => cases l <;> simp [Rows.uptoBulk]
  | _ => simp [Rows.uptoBulk]
theorem bulk_len (l : List (DataW H)) : l.length ≤ Rows.uptoBulkAll l := by
  induction l with
  | nil => simp
  | cons x r ih => have := bulk_one x; simp only [Rows.uptoBulkAll, List.length_cons]; omega
theorem bulk_map {β : Type} (f : β → DataW H) (g : β → List En.Entry) : ∀ l : List β, (∀ x ∈ l, (g x).length ≤ Rows.uptoBulk (f x)) → (l.map g).flatten.length ≤ Rows.uptoBulkAll (l.map f)
  | [], _ => by simp
  | x :: r, h => by
    have h1 := h x (by simp)
    have h2 := bulk_map f g r (fun y hy => h y (by simp [hy]))
    simp only [List.map_cons, List.flatten_cons, List.length_append, Rows.uptoBulkAll]
    omega
/-- A slice of entries, by its cells alone. -/
theorem row_in {m : Nat} {cs : List Value} {y : DataW H × List MemPlace} (h : DataW.trod enc Try.prog w 0 (fun _ => true) held m 25 cs = some y) : ∃ p : Row, cs = [p.1] ∧ Rd w p.1 4 p.2.length (p.2.flatMap cl) ∧ p.2.length ≤ Rows.uptoBulk y.1 := by
  have hC : Try.prog.cellsOf 32 = 4 := by kernel_rfl
  rcases open_slice Try.underlying25 h with ⟨rfl, rfl⟩ | ⟨a, len, cap, m, n, D, Pl, rfl, _, hl, hm, hmm, rfl, hi⟩
  · exact ⟨(.slice none 0 0, []), rfl, Rd.nil w 4, by simp⟩
  · simp only [if_true] at hmm
    subst hmm
    have key : ∀ k, k ≤ m → ∃ l : List En.Entry, l.length = k ∧ ∀ i (h : i < l.length) j, j < 4 → w.cell? (a.add (i * 4 + j)) = (cl l[i])[j]? := by
      intro k
      induction k with
      | zero => intro _; exact ⟨[], rfl, fun i h => by simp at h⟩
      | succ k ih =>
        intro hk
        obtain ⟨l, hll, hg⟩ := ih (by omega)
        obtain ⟨cs', hc, ht'⟩ := hi k (by omega)
        obtain ⟨x, rfl⟩ := entry_in ht'
        rw [hC] at hc
        obtain ⟨_, _, hat⟩ := World.cells?_some hc
        refine ⟨l ++ [x], by simp [hll], fun i h j hj => ?_⟩
        rcases Nat.lt_or_ge i l.length with h' | h'
        · rw [List.getElem_append_left h']; exact hg i h' j hj
        · have e : i = k := by simp at h; omega
          subst e
          rw [List.getElem_append_right h']
          simp only [hll, Nat.sub_self, List.getElem_singleton]
          rw [← hat j hj, Go.Deep.add_add]
    obtain ⟨l, hll, hg⟩ := key m (Nat.le_refl _)
    have h1 := Rd.ofCells (w := w) (a := a) (len := len) (cap := m) (sz := 4) (l.flatMap cl) hl hm (by decide) (by rw [rows_len cl_len, hll]) (fun i hi' => by
      rw [rows_len cl_len] at hi'
      have hq : i / 4 < l.length := by omega
      have hr : i % 4 < 4 := Nat.mod_lt _ (by decide)
      have e : i = i / 4 * 4 + i % 4 := by omega
      have := hg (i / 4) hq (i % 4) hr
      rw [← e] at this
      rw [this, ← rows_get cl_len l _ _ hq hr, ← e])
    rw [rows_take cl_len] at h1
    have h2 : (l.take len).length = len := by rw [List.length_take, hll]; omega
    refine ⟨(.slice (some a) len m, l.take len), rfl, by show Rd w (.slice (some a) len m) 4 (l.take len).length _; rw [h2]; exact h1, ?_⟩
    show (l.take len).length ≤ _
    rw [h2]
    have := bulk_len ((List.range len).map D)
    simp only [List.length_map, List.length_range] at this
    simp only [Rows.uptoBulk]
    omega
/-- A slice of slices of entries: its rows. -/
theorem rows_of {v : Value} {d : DataW H} {ps : List MemPlace} (hd : DataW.Trod enc Try.prog w 0 (fun _ => true) held 22 v d ps) {r : Reach} {b0 : Nat} (hval : Value.okWide Try.prog w r b0 22 v) : ∃ Ls : List Row, Rd w v 1 Ls.length (vals Ls) ∧ (∀ p ∈ Ls, Rd w p.1 4 p.2.length (p.2.flatMap cl)) ∧ (Ls.map (·.2)).flatten.length ≤ Rows.uptoBulk d := by
  have hC : Try.prog.cellsOf 25 = 1 := by kernel_rfl
  obtain ⟨ao, len, cap, rfl⟩ := okWide_slice Try.underlying22 hval
  obtain ⟨fuel, hf⟩ := hd
  rcases open_slice Try.underlying22 hf with ⟨hcs, hx⟩ | ⟨a, len', cap', m, n, D, Pl, hcs, _, hl, hm, hmm, hx, hi⟩
  · simp [Value.cells] at hcs
    obtain ⟨rfl, rfl, rfl⟩ := hcs
    exact ⟨[], Rd.nil w 1, by simp, by simp⟩
  · simp [Value.cells] at hcs
    obtain ⟨rfl, rfl, rfl⟩ := hcs
    simp only [if_true] at hmm
    subst hmm
    obtain ⟨rfl, _⟩ := Prod.mk.inj hx
    have key : ∀ k, k ≤ m → ∃ l : List Row, l.length = k ∧ ∀ i (h : i < l.length), w.cell? (a.add (i * 1)) = some l[i].1 ∧ Rd w l[i].1 4 l[i].2.length (l[i].2.flatMap cl) ∧ l[i].2.length ≤ Rows.uptoBulk (D i) := by
      intro k
      induction k with
      | zero => intro _; exact ⟨[], rfl, fun i h => by simp at h⟩
      | succ k ih =>
        intro hk
        obtain ⟨l, hll, hg⟩ := ih (by omega)
        obtain ⟨cs', hc, ht'⟩ := hi k (by omega)
        obtain ⟨x, rfl, hx1, hx2⟩ := row_in ht'
        rw [hC] at hc
        obtain ⟨_, _, hat⟩ := World.cells?_some hc
        refine ⟨l ++ [x], by simp [hll], fun i h => ?_⟩
        rcases Nat.lt_or_ge i l.length with h' | h'
        · rw [List.getElem_append_left h']; exact hg i h'
        · have e : i = k := by simp at h; omega
          subst e
          rw [List.getElem_append_right h']
          simp only [hll, Nat.sub_self, List.getElem_singleton]
          have := hat 0 (by decide)
          rw [Go.Deep.add_add, Nat.add_zero] at this
          exact ⟨by simpa using this, hx1, hx2⟩
    obtain ⟨l, hll, hg⟩ := key m (Nat.le_refl _)
    have h1 := Rd.ofCells (w := w) (a := a) (len := len) (cap := m) (sz := 1) (vals l) hl hm (by decide) (by rw [vals_len, hll, Nat.mul_one]) (fun i hi' => by
      rw [vals_len] at hi'
      have := (hg i hi').1
      rw [Nat.mul_one] at this
      rw [this, vals, List.getElem?_map, List.getElem?_eq_getElem hi']; rfl)
    have h2 : (l.take len).length = len := by rw [List.length_take, hll]; omega
    refine ⟨l.take len, by rw [h2]; rw [Nat.mul_one, vals, ← List.map_take] at h1; exact h1, fun p hp => ?_, ?_⟩
    · obtain ⟨i, hi', rfl⟩ := List.getElem_of_mem hp
      rw [List.getElem_take]
      exact (hg i (by rw [h2] at hi'; omega)).2.1
    · have e : (l.take len).map (·.2) = (List.range len).map (fun i => (l[i]?.map (·.2)).getD []) := by
        refine List.ext_getElem (by simp; omega) (fun i h3 h4 => ?_)
        have hi' : i < l.length := by simp at h3; omega
        simp [List.getElem?_eq_getElem hi']
      rw [e]
      have := bulk_map D (fun i => (l[i]?.map (·.2)).getD []) (List.range len) (fun i hi' => by
        have hi2 : i < l.length := by simp at hi'; omega
        rw [List.getElem?_eq_getElem hi2]
        exact (hg i hi2).2.2)
      simp only [Rows.uptoBulk]
      omega
