/-
  Timers: their cells, compared, read.
-/
import Derived.Test.YtemfaondlhglbaaTm
import Derived.Test.YtemfaondlhglbaaLaneL
import Derived.Test.YtemfaondlhglbaaProg
import Derived.KernelRfl
import Derived.Deep.Strs
namespace Go.Proofs.Ytemfaondlhglbaa
open Go.Lane
/-- The cells of a Timer. -/
def cl (p : Tm.Timer) : List Value := [.int .i64 p.at_, .int .i64 p.seq, .int .i64 p.cas, str p.stage, str p.event]
theorem cl_len (p : Tm.Timer) : (cl p).length = 5 := rfl
theorem cl_one (p : Tm.Timer) : ∀ u ∈ cl p, u.oneCell' = true := by simp [cl, Value.oneCell']
theorem rows_one (l : List Tm.Timer) : ∀ u ∈ l.flatMap cl, u.oneCell' = true := by intro u hu; obtain ⟨p, _, hp⟩ := List.mem_flatMap.1 hu; exact cl_one p u hp
theorem eqTimer (p q : Tm.Timer) (w : World) : (Op.equalIn 10000 27 (.agg (cl p).toArray) (.agg (cl q).toArray)).run Try.prog w = .ok (decide (p = q)) w := by
  have ht : Try.prog.underlying 27 = some (.struct (Try.prog.fieldsOf 27)) := by rw [Program.fieldsOf, Try.underlying27]
  rw [run_equalIn_struct w 9999 27 _ _ ht (by kernel_rfl)]
  simp only [Program.fieldsOf, Try.underlying27]
  have e0 := eq_i64 (P := Try.prog) (w := w) Try.underlying3 9998 p.at_ q.at_
  have e1 := eq_i64 (P := Try.prog) (w := w) Try.underlying3 9998 p.seq q.seq
  have e2 := eq_i64 (P := Try.prog) (w := w) Try.underlying3 9998 p.cas q.cas
  have e3 := eq_str (P := Try.prog) (w := w) Try.underlying9 9998 p.stage q.stage
  have e4 := eq_str (P := Try.prog) (w := w) Try.underlying9 9998 p.event q.event
  refine (eqFields_cons (a := .int .i64 p.at_) (b := .int .i64 q.at_) (by decide) ⟨_, Try.underlying3, rfl⟩ rfl rfl e0).trans ?_
  rw [eqFields_cons (a := .int .i64 p.seq) (b := .int .i64 q.seq) (by decide) ⟨_, Try.underlying3, rfl⟩ rfl rfl e1]
  rw [eqFields_cons (a := .int .i64 p.cas) (b := .int .i64 q.cas) (by decide) ⟨_, Try.underlying3, rfl⟩ rfl rfl e2]
  rw [eqFields_cons (a := str p.stage) (b := str q.stage) (by decide) ⟨_, Try.underlying9, rfl⟩ rfl rfl e3]
  rw [eqFields_cons (a := str p.event) (b := str q.event) (by decide) ⟨_, Try.underlying9, rfl⟩ rfl rfl e4]
  clear e0 e1 e2 e3 e4
  obtain ⟨a0, a1, a2, a3, a4⟩ := p
  obtain ⟨b0, b1, b2, b3, b4⟩ := q
  simp only [Tm.Timer.mk.injEq, decide_eq_true_eq, Op.eqFields, Sem.run_pure]
  simp only [ifs_end, ifs_next]
section
open Go.ChangeShapes Go.WideShapes Go.RowKit Go.Deep
variable {H : Type} {enc : TypeId × Value → H} {w : World} {held : Bool}
theorem timer_in {m : Nat} {cs : List Value} {y : DataW H × List MemPlace} (h : DataW.trod enc Try.prog w 0 (fun _ => true) held m 27 cs = some y) : ∃ x : Tm.Timer, cs = cl x := by
  obtain ⟨xs, n, _, rfl, hl, hlen, hf⟩ := DataW.trod_struct Try.underlying27 h
  have cT : Try.prog.cellsOf 27 = 5 := by kernel_rfl
  have c3 : Try.prog.cellsOf 3 = 1 := by kernel_rfl
  have c9 : Try.prog.cellsOf 9 = 1 := by kernel_rfl
  rw [cT] at hl
  match cs, hl, xs, hlen with
  | [v0, v1, v2, v3, v4], _, [y0, y1, y2, y3, y4], _ =>
    have h0 : DataW.trod enc Try.prog w 0 (fun _ => true) held n 3 [v0] = some y0 := by simpa [c3] using hf 0 _ rfl
    have h1 : DataW.trod enc Try.prog w 0 (fun _ => true) held n 3 [v1] = some y1 := by simpa [c3] using hf 1 _ rfl
    have h2 : DataW.trod enc Try.prog w 0 (fun _ => true) held n 3 [v2] = some y2 := by simpa [c3] using hf 2 _ rfl
    have h3 : DataW.trod enc Try.prog w 0 (fun _ => true) held n 9 [v3] = some y3 := by simpa [c9] using hf 3 _ rfl
    have h4 : DataW.trod enc Try.prog w 0 (fun _ => true) held n 9 [v4] = some y4 := by simpa [c9] using hf 4 _ rfl
    obtain ⟨a0, rfl, _⟩ := trod_intv Try.underlying3 h0
    obtain ⟨a1, rfl, _⟩ := trod_intv Try.underlying3 h1
    obtain ⟨a2, rfl, _⟩ := trod_intv Try.underlying3 h2
    obtain ⟨s3, rfl⟩ := trod_strv Try.underlying9 h3
    obtain ⟨s4, rfl⟩ := trod_strv Try.underlying9 h4
    exact ⟨⟨a0, a1, a2, s3.data.toList, s4.data.toList⟩, rfl⟩
theorem timers_of {v : Value} {d : DataW H} {ps : List MemPlace} {r : Reach} {b0 : Nat} (hval : Value.okWide Try.prog w r b0 25 v) (hd : DataW.Trod enc Try.prog w 0 (fun _ => true) held 25 v d ps) : ∃ l : List Tm.Timer, Rd w v 5 l.length (l.flatMap cl) :=
  slice_of cl Try.underlying25 (by kernel_rfl) (by decide) cl_len (fun _ _ _ h => timer_in h) hval hd
theorem timer_of {v : Value} {d : DataW H} {ps : List MemPlace} {r : Reach} {b0 : Nat} (hval : Value.okWide Try.prog w r b0 27 v) (hd : DataW.Trod enc Try.prog w 0 (fun _ => true) held 27 v d ps) : ∃ x : Tm.Timer, v = .agg (cl x).toArray := by
  obtain ⟨cs, rfl, _⟩ := okWide_struct Try.underlying27 hval
  obtain ⟨fuel, hf⟩ := hd
  obtain ⟨x, hx⟩ := timer_in hf
  exact ⟨x, by rw [← hx]; simp [Value.cells]⟩
end
/-- The timer at a place, its cells. -/
theorem recAt {ad : Option Addr} {c i : Nat} {l : List Tm.Timer} {w : World} (h : Rd w (.slice ad l.length c) 5 l.length (l.flatMap cl)) (hi : i < l.length) : ∃ b off, ad = some ⟨b, off, none⟩ ∧ ∀ j, j < 5 → w.cell? ⟨b, off + i * 5 + j, none⟩ = (cl (Tm.rec l i))[j]? := by
  obtain ⟨b, off, h1, h2⟩ := Rd.elt cl_len (by decide) h hi
  exact ⟨b, off, h1, by rw [← Tm.rec_eq hi]; exact h2⟩
theorem recOne {x : Tm.Timer} {w : World} {b : Nat} {fr : Nat × Nat} (h : Has w b (flat [.agg (cl x).toArray]).toArray 27 fr) : Rd w (.slice (some ⟨b, 0, none⟩) 1 1) 5 1 ([x].flatMap cl) := by
  have := Rd.ofFlat (sz := 5) (m := 1) h (by simp [Value.cells, cl_len]) rfl (by decide)
  simpa [flat, Value.cells] using this
theorem recs_ext {l m : List Tm.Timer} (h : l.length = m.length) (h2 : ∀ j, j < l.length → Tm.rec l j = Tm.rec m j) : l = m := by
  apply List.ext_getElem h
  intro i h3 h4
  rw [Tm.rec_eq h3, Tm.rec_eq h4]; exact h2 i h3
theorem Rd.recs {w : World} {v : Value} {n : Nat} {cs : List Value} (h : Rd w v 5 n cs) (l : List Tm.Timer) (hn : n = l.length) (hcs : cs = l.flatMap cl) : Rd w v 5 l.length (l.flatMap cl) := by subst hn; subst hcs; exact h
theorem own_prefix {w : World} {b g c n : Nat} {l m : List Tm.Timer} (h : Own w b 27 5 (.slice (some ⟨g, 0, none⟩) n c) n ((l ++ m).flatMap cl)) (hn : l.length ≤ n) : Rd w (.slice (some ⟨g, 0, none⟩) l.length c) 5 l.length (l.flatMap cl) := by
  have := (Rd.ofOwn h).to (j := l.length) hn
  rwa [rows_take cl_len, List.take_left] at this
end Go.Proofs.Ytemfaondlhglbaa
