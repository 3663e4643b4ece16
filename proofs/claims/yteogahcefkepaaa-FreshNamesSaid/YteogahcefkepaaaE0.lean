/-
  Entries: their cells, compared, read.
-/
import Derived.Test.YteogahcefkepaaaEn
import Derived.Test.YteogahcefkepaaaLaneN
import Derived.Test.YteogahcefkepaaaProg
import Derived.KernelRfl
import Derived.Deep.Strs
namespace Go.Proofs.Yteogahcefkepaaa
open Go.Lane
/-- The cells of a Entry. -/
def cl (p : En.Entry) : List Value := [str p.key, str p.value, .int .i64 p.seq, .bool p.gone]
theorem cl_len (p : En.Entry) : (cl p).length = 4 := rfl
theorem cl_one (p : En.Entry) : ∀ u ∈ cl p, u.oneCell' = true := by simp [cl, Value.oneCell']
theorem rows_one (l : List En.Entry) : ∀ u ∈ l.flatMap cl, u.oneCell' = true := by intro u hu; obtain ⟨p, _, hp⟩ := List.mem_flatMap.1 hu; exact cl_one p u hp
theorem eqEntry (p q : En.Entry) (w : World) : (Op.equalIn 10000 30 (.agg (cl p).toArray) (.agg (cl q).toArray)).run Try.prog w = .ok (decide (p = q)) w := by
  have ht : Try.prog.underlying 30 = some (.struct (Try.prog.fieldsOf 30)) := by rw [Program.fieldsOf, Try.underlying30]
  rw [run_equalIn_struct w 9999 30 _ _ ht (by kernel_rfl)]
  simp only [Program.fieldsOf, Try.underlying30]
  have e0 := eq_str (P := Try.prog) (w := w) Try.underlying9 9998 p.key q.key
  have e1 := eq_str (P := Try.prog) (w := w) Try.underlying9 9998 p.value q.value
  have e2 := eq_i64 (P := Try.prog) (w := w) Try.underlying3 9998 p.seq q.seq
  have e3 := eq_bool (P := Try.prog) (w := w) Try.underlying4 9998 p.gone q.gone
  refine (eqFields_cons (a := str p.key) (b := str q.key) (by decide) ⟨_, Try.underlying9, rfl⟩ rfl rfl e0).trans ?_
  rw [eqFields_cons (a := str p.value) (b := str q.value) (by decide) ⟨_, Try.underlying9, rfl⟩ rfl rfl e1]
  rw [eqFields_cons (a := .int .i64 p.seq) (b := .int .i64 q.seq) (by decide) ⟨_, Try.underlying3, rfl⟩ rfl rfl e2]
  rw [eqFields_cons (a := .bool p.gone) (b := .bool q.gone) (by decide) ⟨_, Try.underlying4, rfl⟩ rfl rfl e3]
  clear e0 e1 e2 e3
  obtain ⟨a0, a1, a2, a3⟩ := p
  obtain ⟨b0, b1, b2, b3⟩ := q
  simp only [En.Entry.mk.injEq, decide_eq_true_eq, Op.eqFields, Sem.run_pure]
  simp only [ifs_end, ifs_next]
section
open Go.ChangeShapes Go.WideShapes Go.RowKit Go.Deep
variable {H : Type} {enc : TypeId × Value → H} {w : World} {held : Bool}
theorem entry_in {m : Nat} {cs : List Value} {y : DataW H × List MemPlace} (h : DataW.trod enc Try.prog w 0 (fun _ => true) held m 30 cs = some y) : ∃ x : En.Entry, cs = cl x := by
  obtain ⟨xs, n, _, rfl, hl, hlen, hf⟩ := DataW.trod_struct Try.underlying30 h
  have cT : Try.prog.cellsOf 30 = 4 := by kernel_rfl
  have c3 : Try.prog.cellsOf 3 = 1 := by kernel_rfl
  have c4 : Try.prog.cellsOf 4 = 1 := by kernel_rfl
  have c9 : Try.prog.cellsOf 9 = 1 := by kernel_rfl
  rw [cT] at hl
  match cs, hl, xs, hlen with
  | [v0, v1, v2, v3], _, [y0, y1, y2, y3], _ =>
    have h0 : DataW.trod enc Try.prog w 0 (fun _ => true) held n 9 [v0] = some y0 := by simpa [c9] using hf 0 _ rfl
    have h1 : DataW.trod enc Try.prog w 0 (fun _ => true) held n 9 [v1] = some y1 := by simpa [c9] using hf 1 _ rfl
    have h2 : DataW.trod enc Try.prog w 0 (fun _ => true) held n 3 [v2] = some y2 := by simpa [c3] using hf 2 _ rfl
    have h3 : DataW.trod enc Try.prog w 0 (fun _ => true) held n 4 [v3] = some y3 := by simpa [c4] using hf 3 _ rfl
    obtain ⟨s0, rfl⟩ := trod_strv Try.underlying9 h0
    obtain ⟨s1, rfl⟩ := trod_strv Try.underlying9 h1
    obtain ⟨a2, rfl, _⟩ := trod_intv Try.underlying3 h2
    obtain ⟨a3, rfl⟩ := trod_boolv Try.underlying4 h3
    exact ⟨⟨s0.data.toList, s1.data.toList, a2, a3⟩, rfl⟩
theorem entries_of {v : Value} {d : DataW H} {ps : List MemPlace} {r : Reach} {b0 : Nat} (hval : Value.okWide Try.prog w r b0 22 v) (hd : DataW.Trod enc Try.prog w 0 (fun _ => true) held 22 v d ps) : ∃ l : List En.Entry, Rd w v 4 l.length (l.flatMap cl) :=
  slice_of cl Try.underlying22 (by kernel_rfl) (by decide) cl_len (fun _ _ _ h => entry_in h) hval hd
theorem entry_of {v : Value} {d : DataW H} {ps : List MemPlace} {r : Reach} {b0 : Nat} (hval : Value.okWide Try.prog w r b0 30 v) (hd : DataW.Trod enc Try.prog w 0 (fun _ => true) held 30 v d ps) : ∃ x : En.Entry, v = .agg (cl x).toArray := by
  obtain ⟨cs, rfl, _⟩ := okWide_struct Try.underlying30 hval
  obtain ⟨fuel, hf⟩ := hd
  obtain ⟨x, hx⟩ := entry_in hf
  exact ⟨x, by rw [← hx]; simp [Value.cells]⟩
end
/-- The entry at a place, its cells. -/
theorem recAt {ad : Option Addr} {c i : Nat} {l : List En.Entry} {w : World} (h : Rd w (.slice ad l.length c) 4 l.length (l.flatMap cl)) (hi : i < l.length) : ∃ b off, ad = some ⟨b, off, none⟩ ∧ ∀ j, j < 4 → w.cell? ⟨b, off + i * 4 + j, none⟩ = (cl (En.rec l i))[j]? := by
  obtain ⟨b, off, h1, h2⟩ := Rd.elt cl_len (by decide) h hi
  exact ⟨b, off, h1, by rw [← En.rec_eq hi]; exact h2⟩
/-- The same, for all that comes of the world. -/
theorem recIn {ad : Option Addr} {c i : Nat} {l : List En.Entry} {w : World} (h : Rd w (.slice ad l.length c) 4 l.length (l.flatMap cl)) (hi : i < l.length) : ∃ b off, ad = some ⟨b, off, none⟩ ∧ ∀ w2, Ch [] w w2 → ∀ j, j < 4 → w2.cell? ⟨b, off + i * 4 + j, none⟩ = (cl (En.rec l i))[j]? := by
  obtain ⟨b, off, rfl, _⟩ := recAt h hi
  exact ⟨b, off, rfl, fun w2 h2 => by obtain ⟨b', o', e, hh⟩ := recAt (h.ch0 h2) hi; cases e; exact hh⟩
/-- All of them. -/
theorem recAll {ad : Option Addr} {c : Nat} {l : List En.Entry} {w : World} (h : Rd w (.slice ad l.length c) 4 l.length (l.flatMap cl)) (h0 : 0 < l.length) : ∃ b off, ad = some ⟨b, off, none⟩ ∧ ∀ i, i < l.length → ∀ w2, Ch [] w w2 → ∀ j, j < 4 → w2.cell? ⟨b, off + i * 4 + j, none⟩ = (cl (En.rec l i))[j]? := by
  obtain ⟨b, off, rfl, _⟩ := recAt h h0
  exact ⟨b, off, rfl, fun i hi w2 h2 => by obtain ⟨b', o', e, hh⟩ := recAt (h.ch0 h2) hi; cases e; exact hh⟩
theorem recOne {x : En.Entry} {w : World} {b : Nat} {fr : Nat × Nat} (h : Has w b (flat [.agg (cl x).toArray]).toArray 30 fr) : Rd w (.slice (some ⟨b, 0, none⟩) 1 1) 4 1 ([x].flatMap cl) := by
  have := Rd.ofFlat (sz := 4) (m := 1) h (by simp [Value.cells, cl_len]) rfl (by decide)
  simpa [flat, Value.cells] using this
/-- The zero entry. -/
def e0 : En.Entry := ⟨[], [], 0, false⟩
theorem rec_nil (i : Nat) : En.rec [] i = e0 := by simp [En.rec, e0]; rfl
theorem prefixRd {ad : Option Addr} {c i : Nat} {l : List En.Entry} {w : World} (h : Rd w (.slice ad l.length c) 4 l.length (l.flatMap cl)) (hi : i ≤ l.length) : Rd w (.slice ad i c) 4 (l.take i).length ((l.take i).flatMap cl) := by
  have h2 := h.to hi
  rw [rows_take cl_len] at h2
  rwa [List.length_take, Nat.min_eq_left hi]
theorem suffixRd {ad : Option Addr} {c i : Nat} {l : List En.Entry} {w : World} (h : Rd w (.slice ad l.length c) 4 l.length (l.flatMap cl)) (hi : i ≤ l.length) : Rd w (.slice (adv ad c i 4) (l.length - i) (c - i)) 4 (l.drop i).length ((l.drop i).flatMap cl) := by
  have h2 := h.behind hi
  rw [rows_drop cl_len] at h2
  rwa [List.length_drop]
theorem zero_one : ∀ u ∈ (Value.agg #[.string ⟨#[]⟩, .string ⟨#[]⟩, .int .i64 0, .bool false]).cells.toList, u.oneCell' = true := by
  simp [Value.cells, Value.oneCell']
end Go.Proofs.Yteogahcefkepaaa
