/-
  Records: their cells, compared, read.
-/
import Derived.Test.YtcoaophfojkldaaN1
import Derived.Test.YtcoaophfojkldaaS6
import Derived.Test.YtcoaophfojkldaaChain
import Derived.Test.YtcoaophfojkldaaLaneK
import Derived.Deep.Strs
namespace Go.Proofs.Ytcoaophfojkldaa
open Go.Lane
/-- The cells of a Record. -/
def cl (p : Audit.Record) : List Value := [.int .i64 p.seq, .int .i64 p.at_, str p.user, str p.deed, .int .i64 p.outcome, str p.hash]
theorem cl_len (p : Audit.Record) : (cl p).length = 6 := rfl
theorem cl_one (p : Audit.Record) : ∀ u ∈ cl p, u.oneCell' = true := by simp [cl, Value.oneCell']
theorem rows_one (l : List Audit.Record) : ∀ u ∈ l.flatMap cl, u.oneCell' = true := by intro u hu; obtain ⟨p, _, hp⟩ := List.mem_flatMap.1 hu; exact cl_one p u hp
theorem eqRecord (p q : Audit.Record) (w : World) : (Op.equalIn 10000 32 (.agg (cl p).toArray) (.agg (cl q).toArray)).run Try.prog w = .ok (decide (p = q)) w := by
  have ht : Try.prog.underlying 32 = some (.struct (Try.prog.fieldsOf 32)) := by rw [Program.fieldsOf, Try.underlying32]
  rw [run_equalIn_struct w 9999 32 _ _ ht (by kernel_rfl)]
  simp only [Program.fieldsOf, Try.underlying32]
  have e0 := eq_i64 (P := Try.prog) (w := w) Try.underlying3 9998 p.seq q.seq
  have e1 := eq_i64 (P := Try.prog) (w := w) Try.underlying3 9998 p.at_ q.at_
  have e2 := eq_str (P := Try.prog) (w := w) Try.underlying9 9998 p.user q.user
  have e3 := eq_str (P := Try.prog) (w := w) Try.underlying9 9998 p.deed q.deed
  have e4 := eq_i64 (P := Try.prog) (w := w) Try.underlying3 9998 p.outcome q.outcome
  have e5 := eq_str (P := Try.prog) (w := w) Try.underlying9 9998 p.hash q.hash
  refine (eqFields_cons (a := .int .i64 p.seq) (b := .int .i64 q.seq) (by decide) ⟨_, Try.underlying3, rfl⟩ rfl rfl e0).trans ?_
  rw [eqFields_cons (a := .int .i64 p.at_) (b := .int .i64 q.at_) (by decide) ⟨_, Try.underlying3, rfl⟩ rfl rfl e1]
  rw [eqFields_cons (a := str p.user) (b := str q.user) (by decide) ⟨_, Try.underlying9, rfl⟩ rfl rfl e2]
  rw [eqFields_cons (a := str p.deed) (b := str q.deed) (by decide) ⟨_, Try.underlying9, rfl⟩ rfl rfl e3]
  rw [eqFields_cons (a := .int .i64 p.outcome) (b := .int .i64 q.outcome) (by decide) ⟨_, Try.underlying3, rfl⟩ rfl rfl e4]
  rw [eqFields_cons (a := str p.hash) (b := str q.hash) (by decide) ⟨_, Try.underlying9, rfl⟩ rfl rfl e5]
  clear e0 e1 e2 e3 e4 e5
  obtain ⟨a0, a1, a2, a3, a4, a5⟩ := p
  obtain ⟨b0, b1, b2, b3, b4, b5⟩ := q
  simp only [Audit.Record.mk.injEq, decide_eq_true_eq, Op.eqFields, Sem.run_pure]
  simp only [ifs_end, ifs_next]
section
open Go.ChangeShapes Go.WideShapes Go.RowKit Go.Deep
variable {H : Type} {enc : TypeId × Value → H} {w : World} {held : Bool}
theorem record_in {m : Nat} {cs : List Value} {y : DataW H × List MemPlace} (h : DataW.trod enc Try.prog w 0 (fun _ => true) held m 32 cs = some y) : ∃ x : Audit.Record, cs = cl x := by
  obtain ⟨xs, n, _, rfl, hl, hlen, hf⟩ := DataW.trod_struct Try.underlying32 h
  have cT : Try.prog.cellsOf 32 = 6 := by kernel_rfl
  have c3 : Try.prog.cellsOf 3 = 1 := by kernel_rfl
  have c9 : Try.prog.cellsOf 9 = 1 := by kernel_rfl
  rw [cT] at hl
  match cs, hl, xs, hlen with
  | [v0, v1, v2, v3, v4, v5], _, [y0, y1, y2, y3, y4, y5], _ =>
    have h0 : DataW.trod enc Try.prog w 0 (fun _ => true) held n 3 [v0] = some y0 := by simpa [c3] using hf 0 _ rfl
    have h1 : DataW.trod enc Try.prog w 0 (fun _ => true) held n 3 [v1] = some y1 := by simpa [c3] using hf 1 _ rfl
    have h2 : DataW.trod enc Try.prog w 0 (fun _ => true) held n 9 [v2] = some y2 := by simpa [c9] using hf 2 _ rfl
    have h3 : DataW.trod enc Try.prog w 0 (fun _ => true) held n 9 [v3] = some y3 := by simpa [c9] using hf 3 _ rfl
    have h4 : DataW.trod enc Try.prog w 0 (fun _ => true) held n 3 [v4] = some y4 := by simpa [c3] using hf 4 _ rfl
    have h5 : DataW.trod enc Try.prog w 0 (fun _ => true) held n 9 [v5] = some y5 := by simpa [c9] using hf 5 _ rfl
    obtain ⟨a0, rfl, _⟩ := trod_intv Try.underlying3 h0
    obtain ⟨a1, rfl, _⟩ := trod_intv Try.underlying3 h1
    obtain ⟨s2, rfl⟩ := trod_strv Try.underlying9 h2
    obtain ⟨s3, rfl⟩ := trod_strv Try.underlying9 h3
    obtain ⟨a4, rfl, _⟩ := trod_intv Try.underlying3 h4
    obtain ⟨s5, rfl⟩ := trod_strv Try.underlying9 h5
    exact ⟨⟨a0, a1, s2.data.toList, s3.data.toList, a4, s5.data.toList⟩, rfl⟩
theorem records_of {v : Value} {d : DataW H} {ps : List MemPlace} {r : Reach} {b0 : Nat} (hval : Value.okWide Try.prog w r b0 22 v) (hd : DataW.Trod enc Try.prog w 0 (fun _ => true) held 22 v d ps) : ∃ l : List Audit.Record, Rd w v 6 l.length (l.flatMap cl) :=
  slice_of cl Try.underlying22 (by kernel_rfl) (by decide) cl_len (fun _ _ _ h => record_in h) hval hd
end
/-- The record at a place, its cells. -/
theorem recAt {ad : Option Addr} {c i : Nat} {l : List Audit.Record} {w : World} (h : Rd w (.slice ad l.length c) 6 l.length (l.flatMap cl)) (hi : i < l.length) : ∃ b off, ad = some ⟨b, off, none⟩ ∧ ∀ j, j < 6 → w.cell? ⟨b, off + i * 6 + j, none⟩ = (cl (Audit.rec l i))[j]? := by
  obtain ⟨b, off, h1, h2⟩ := Rd.elt cl_len (by decide) h hi
  exact ⟨b, off, h1, by rw [← Audit.rec_eq hi]; exact h2⟩
end Go.Proofs.Ytcoaophfojkldaa
