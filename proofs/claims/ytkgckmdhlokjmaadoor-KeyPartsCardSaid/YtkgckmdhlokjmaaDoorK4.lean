/-
  A slice of parts that came in is read.
-/
import Derived.Test.YtkgckmdhlokjmaaDoorK3
import Derived.Deep.Strs
namespace Go.Proofs.YtkgckmdhlokjmaaDoor
open Go.Lane Go.Key
open Go.ChangeShapes Go.WideShapes Go.RowKit Go.Deep
variable {H : Type} {enc : TypeId × Value → H} {w : World} {held : Bool}

theorem part_in {m : Nat} {cs : List Value} {y : DataW H × List MemPlace} (h : DataW.trod enc Tryd.prog w 0 (fun _ => true) held m 29 cs = some y) : ∃ x : Part, cs = cl x := by
  obtain ⟨y0, y1, y2, n, _, hl, h0, h1, h2⟩ := trod_struct3 Tryd.underlying29 h
  have c30 : Tryd.prog.cellsOf 29 = 3 := by kernel_rfl
  have c5 : Tryd.prog.cellsOf 5 = 1 := by kernel_rfl
  have c2 : Tryd.prog.cellsOf 2 = 1 := by kernel_rfl
  have c9 : Tryd.prog.cellsOf 9 = 1 := by kernel_rfl
  rw [c30] at hl
  match cs, hl with
  | [v0, v1, v2], _ =>
    simp only [c5, c2, c9, List.drop_zero, List.drop_succ_cons, List.take_succ_cons, List.take_zero] at h0 h1 h2
    obtain ⟨a, rfl, wa⟩ := trod_intv Tryd.underlying5 h0
    obtain ⟨b, rfl, _⟩ := trod_intv Tryd.underlying2 h1
    obtain ⟨s, rfl⟩ := trod_strv Tryd.underlying9 h2
    obtain ⟨k, rfl⟩ := u8_of wa
    exact ⟨⟨k, b, s.data.toList⟩, rfl⟩
theorem parts_of {v : Value} {d : DataW H} {ps : List MemPlace} {r : Reach} {b0 : Nat} (hval : Value.okWide Tryd.prog w r b0 22 v) (hd : DataW.Trod enc Tryd.prog w 0 (fun _ => true) held 22 v d ps) : ∃ l : List Part, Rd w v 3 l.length (l.flatMap cl) :=
  slice_of cl Tryd.underlying22 (by kernel_rfl) (by decide) cl_len (fun _ _ _ h => part_in h) hval hd
end Go.Proofs.YtkgckmdhlokjmaaDoor
