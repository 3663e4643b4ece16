/-
  Pieces of work: their cells, compared, read.
-/
import Derived.Test.YtjnagpddiemdhaaWk
import Derived.Test.YtjnagpddiemdhaaLaneK
import Derived.Test.YtjnagpddiemdhaaProg
import Derived.KernelRfl
import Derived.Deep.Strs
namespace Go.Proofs.Ytjnagpddiemdhaa
open Go.Lane
/-- The cells of a Work. -/
def cl (p : Wk.Work) : List Value := [.int .i64 p.id, .int .i64 p.cas, str p.stage, str p.role, u8 p.state, str p.owner]
theorem cl_len (p : Wk.Work) : (cl p).length = 6 := rfl
theorem cl_one (p : Wk.Work) : ∀ u ∈ cl p, u.oneCell' = true := by simp [cl, Value.oneCell']
theorem rows_one (l : List Wk.Work) : ∀ u ∈ l.flatMap cl, u.oneCell' = true := by intro u hu; obtain ⟨p, _, hp⟩ := List.mem_flatMap.1 hu; exact cl_one p u hp
theorem eqWork (p q : Wk.Work) (w : World) : (Op.equalIn 10000 33 (.agg (cl p).toArray) (.agg (cl q).toArray)).run Try.prog w = .ok (decide (p = q)) w := by
  have ht : Try.prog.underlying 33 = some (.struct (Try.prog.fieldsOf 33)) := by rw [Program.fieldsOf, Try.underlying33]
  rw [run_equalIn_struct w 9999 33 _ _ ht (by kernel_rfl)]
  simp only [Program.fieldsOf, Try.underlying33]
  have e0 := eq_i64 (P := Try.prog) (w := w) Try.underlying3 9998 p.id q.id
  have e1 := eq_i64 (P := Try.prog) (w := w) Try.underlying3 9998 p.cas q.cas
  have e2 := eq_str (P := Try.prog) (w := w) Try.underlying9 9998 p.stage q.stage
  have e3 := eq_str (P := Try.prog) (w := w) Try.underlying9 9998 p.role q.role
  have e4 := eq_u8 (P := Try.prog) (w := w) Try.underlying5 9998 p.state q.state
  have e5 := eq_str (P := Try.prog) (w := w) Try.underlying9 9998 p.owner q.owner
  refine (eqFields_cons (a := .int .i64 p.id) (b := .int .i64 q.id) (by decide) ⟨_, Try.underlying3, rfl⟩ rfl rfl e0).trans ?_
  rw [eqFields_cons (a := .int .i64 p.cas) (b := .int .i64 q.cas) (by decide) ⟨_, Try.underlying3, rfl⟩ rfl rfl e1]
  rw [eqFields_cons (a := str p.stage) (b := str q.stage) (by decide) ⟨_, Try.underlying9, rfl⟩ rfl rfl e2]
  rw [eqFields_cons (a := str p.role) (b := str q.role) (by decide) ⟨_, Try.underlying9, rfl⟩ rfl rfl e3]
  rw [eqFields_cons (a := u8 p.state) (b := u8 q.state) (by decide) ⟨_, Try.underlying5, rfl⟩ rfl rfl e4]
  rw [eqFields_cons (a := str p.owner) (b := str q.owner) (by decide) ⟨_, Try.underlying9, rfl⟩ rfl rfl e5]
  clear e0 e1 e2 e3 e4 e5
  obtain ⟨a0, a1, a2, a3, a4, a5⟩ := p
  obtain ⟨b0, b1, b2, b3, b4, b5⟩ := q
  simp only [Wk.Work.mk.injEq, decide_eq_true_eq, Op.eqFields, Sem.run_pure]
  simp only [ifs_end, ifs_next]
section
open Go.ChangeShapes Go.WideShapes Go.RowKit Go.Deep
variable {H : Type} {enc : TypeId × Value → H} {w : World} {held : Bool}
theorem work_in {m : Nat} {cs : List Value} {y : DataW H × List MemPlace} (h : DataW.trod enc Try.prog w 0 (fun _ => true) held m 33 cs = some y) : ∃ x : Wk.Work, cs = cl x := by
  obtain ⟨xs, n, _, rfl, hl, hlen, hf⟩ := DataW.trod_struct Try.underlying33 h
  have cT : Try.prog.cellsOf 33 = 6 := by kernel_rfl
  have c3 : Try.prog.cellsOf 3 = 1 := by kernel_rfl
  have c5 : Try.prog.cellsOf 5 = 1 := by kernel_rfl
  have c9 : Try.prog.cellsOf 9 = 1 := by kernel_rfl
  rw [cT] at hl
  match cs, hl, xs, hlen with
  | [v0, v1, v2, v3, v4, v5], _, [y0, y1, y2, y3, y4, y5], _ =>
    have h0 : DataW.trod enc Try.prog w 0 (fun _ => true) held n 3 [v0] = some y0 := by simpa [c3] using hf 0 _ rfl
    have h1 : DataW.trod enc Try.prog w 0 (fun _ => true) held n 3 [v1] = some y1 := by simpa [c3] using hf 1 _ rfl
    have h2 : DataW.trod enc Try.prog w 0 (fun _ => true) held n 9 [v2] = some y2 := by simpa [c9] using hf 2 _ rfl
    have h3 : DataW.trod enc Try.prog w 0 (fun _ => true) held n 9 [v3] = some y3 := by simpa [c9] using hf 3 _ rfl
    have h4 : DataW.trod enc Try.prog w 0 (fun _ => true) held n 5 [v4] = some y4 := by simpa [c5] using hf 4 _ rfl
    have h5 : DataW.trod enc Try.prog w 0 (fun _ => true) held n 9 [v5] = some y5 := by simpa [c9] using hf 5 _ rfl
    obtain ⟨a0, rfl, _⟩ := trod_intv Try.underlying3 h0
    obtain ⟨a1, rfl, _⟩ := trod_intv Try.underlying3 h1
    obtain ⟨s2, rfl⟩ := trod_strv Try.underlying9 h2
    obtain ⟨s3, rfl⟩ := trod_strv Try.underlying9 h3
    obtain ⟨a4, rfl, wa4⟩ := trod_intv Try.underlying5 h4
    obtain ⟨k4, rfl⟩ := u8_of wa4
    obtain ⟨s5, rfl⟩ := trod_strv Try.underlying9 h5
    exact ⟨⟨a0, a1, s2.data.toList, s3.data.toList, k4, s5.data.toList⟩, rfl⟩
theorem works_of {v : Value} {d : DataW H} {ps : List MemPlace} {r : Reach} {b0 : Nat} (hval : Value.okWide Try.prog w r b0 22 v) (hd : DataW.Trod enc Try.prog w 0 (fun _ => true) held 22 v d ps) : ∃ l : List Wk.Work, Rd w v 6 l.length (l.flatMap cl) :=
  slice_of cl Try.underlying22 (by kernel_rfl) (by decide) cl_len (fun _ _ _ h => work_in h) hval hd
theorem work_of {v : Value} {d : DataW H} {ps : List MemPlace} {r : Reach} {b0 : Nat} (hval : Value.okWide Try.prog w r b0 33 v) (hd : DataW.Trod enc Try.prog w 0 (fun _ => true) held 33 v d ps) : ∃ x : Wk.Work, v = .agg (cl x).toArray := by
  obtain ⟨cs, rfl, _⟩ := okWide_struct Try.underlying33 hval
  obtain ⟨fuel, hf⟩ := hd
  obtain ⟨x, hx⟩ := work_in hf
  exact ⟨x, by rw [← hx]; simp [Value.cells]⟩
end
/-- The piece at a place, its cells. -/
theorem recAt {ad : Option Addr} {c i : Nat} {l : List Wk.Work} {w : World} (h : Rd w (.slice ad l.length c) 6 l.length (l.flatMap cl)) (hi : i < l.length) : ∃ b off, ad = some ⟨b, off, none⟩ ∧ ∀ j, j < 6 → w.cell? ⟨b, off + i * 6 + j, none⟩ = (cl (Wk.rec l i))[j]? := by
  obtain ⟨b, off, h1, h2⟩ := Rd.elt cl_len (by decide) h hi
  exact ⟨b, off, h1, by rw [← Wk.rec_eq hi]; exact h2⟩
theorem recOne {x : Wk.Work} {w : World} {b : Nat} {fr : Nat × Nat} (h : Has w b (flat [.agg (cl x).toArray]).toArray 33 fr) : Rd w (.slice (some ⟨b, 0, none⟩) 1 1) 6 1 ([x].flatMap cl) := by
  have := Rd.ofFlat (sz := 6) (m := 1) h (by simp [Value.cells, cl_len]) rfl (by decide)
  simpa [flat, Value.cells] using this
theorem recs_ext {l m : List Wk.Work} (h : l.length = m.length) (h2 : ∀ j, j < l.length → Wk.rec l j = Wk.rec m j) : l = m := by
  apply List.ext_getElem h
  intro i h3 h4
  rw [Wk.rec_eq h3, Wk.rec_eq h4]; exact h2 i h3
theorem Rd.recs {w : World} {v : Value} {n : Nat} {cs : List Value} (h : Rd w v 6 n cs) (l : List Wk.Work) (hn : n = l.length) (hcs : cs = l.flatMap cl) : Rd w v 6 l.length (l.flatMap cl) := by subst hn; subst hcs; exact h
theorem own_prefix {w : World} {b g c n : Nat} {l m : List Wk.Work} (h : Own w b 33 6 (.slice (some ⟨g, 0, none⟩) n c) n ((l ++ m).flatMap cl)) (hn : l.length ≤ n) : Rd w (.slice (some ⟨g, 0, none⟩) l.length c) 6 l.length (l.flatMap cl) := by
  have := (Rd.ofOwn h).to (j := l.length) hn
  rwa [rows_take cl_len, List.take_left] at this
end Go.Proofs.Ytjnagpddiemdhaa
