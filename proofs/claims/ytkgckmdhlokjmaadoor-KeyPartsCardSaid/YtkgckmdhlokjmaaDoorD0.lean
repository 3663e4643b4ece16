/-
  What the rows' list gives, and a world for the witnesses that holds the listed tables.
-/
import Derived.Test.YtkgckmdhlokjmaaDoorC1
import Derived.Test.YtkgckmdhlokjmaaDoorK4
import Derived.Test.YtkgckmdhlokjmaaDoorCards
import Derived.Test.YtkgckmdhlokjmaaDoorTie
import Derived.Test.YtkgckmdhlokjmaaDoorLaneF
import Derived.ProofKit
import Derived.OpenShut
import Derived.Deep.DeepHandedRow
import Derived.Lib.LaidTab
namespace Go.Proofs.YtkgckmdhlokjmaaDoor
open Go.ChangeShapes Go.WideShapes Go.ChangeAt Go.RowKit
theorem own : ownKnob Tryd.prog.godebug = none := by kernel_rfl
theorem laidOut : laidOutB Tryd.prog = true := by kernel_rfl
theorem sh_of {W : World} (h : W.ShapedOpen Tryd.prog) : Sh W := Tryd.laysM145.s1_3 W h
def accepts : List Value := [.int .u8 128, .int .u8 191, .int .u8 160, .int .u8 191, .int .u8 128, .int .u8 159, .int .u8 144, .int .u8 191, .int .u8 128, .int .u8 143] ++ List.replicate 22 (.int .u8 0)
def lay (cs : List Value) : Obj → Obj
  | .cells _ t frozen => .cells cs.toArray t frozen
  | o => o
/-- The settled world, the two listed tables (blocks 1 and 2) as the text lays them. -/
noncomputable def laidWorld (os : Os) : World :=
  { World.holding Tryd.prog os ⟨#[], #[], []⟩ with heap := ((World.holding Tryd.prog os ⟨#[], #[], []⟩).heap.modify 1 (lay (Go.Pinned.utf8FirstZ.map (fun n : Nat => Value.int .u8 (n : Int))))).modify 2 (lay accepts) }
set_option maxRecDepth 100000 in
theorem laid_met (os : Os) (args : Array Value) : laidMet Tryd.prog Rows.keyAfterRow.laid ((laidWorld os).forCall (fun _ _ => 0) ⟨#[], args, []⟩).memory :=
  laidMet_of_run' 8 (by kernel_rfl) (by kernel_rfl)
section
open Go.Deep Go.Lane Go.Key
variable {H : Type} {enc : TypeId × Value → H} {w : World} {held : Bool}
theorem part_in2 {m : Nat} {cs : List Value} {y : DataW H × List MemPlace} (h : DataW.trod enc Tryd.prog w 0 (fun _ => true) held m 29 cs = some y) : ∃ x : { p : Part // inI p.int }, cs = cl x.1 := by
  obtain ⟨y0, y1, y2, n, _, hl, h0, h1, h2⟩ := trod_struct3 Tryd.underlying29 h
  have c30 : Tryd.prog.cellsOf 29 = 3 := by kernel_rfl
  have c5 : Tryd.prog.cellsOf 5 = 1 := by kernel_rfl
  have c2 : Tryd.prog.cellsOf 2 = 1 := by kernel_rfl
  have c9 : Tryd.prog.cellsOf 9 = 1 := by kernel_rfl
  rw [c30] at hl
  match cs, hl with
  | [v0, v1, v2], _ =>
    simp only [c5, c2, c9, List.drop_zero, List.drop_succ_cons, List.take_succ_cons, List.take_zero] at h0 h1 h2
    obtain ⟨a, rfl, wa⟩ := trod_intv Tryd.underlying5 h0
    obtain ⟨b, rfl, wb⟩ := trod_intv Tryd.underlying2 h1
    obtain ⟨s, rfl⟩ := trod_strv Tryd.underlying9 h2
    obtain ⟨k, rfl⟩ := u8_of wa
    exact ⟨⟨⟨k, b, s.data.toList⟩, bounds_i64 wb⟩, rfl⟩
/-- A slice of parts that came in is read; its numbers are numbers. -/
theorem parts_in {v : Value} {d : DataW H} {ps : List MemPlace} {r : Reach} {b0 : Nat} (hval : Value.okWide Tryd.prog w r b0 22 v) (hd : DataW.Trod enc Tryd.prog w 0 (fun _ => true) held 22 v d ps) : ∃ l : List Part, Rd w v 3 l.length (l.flatMap cl) ∧ ∀ p ∈ l, inI p.int := by
  obtain ⟨l, hl⟩ := slice_of (fun x : { p : Part // inI p.int } => cl x.1) Tryd.underlying22 (by kernel_rfl) (by decide) (fun x => cl_len x.1) (fun _ _ _ h => part_in2 h) hval hd
  refine ⟨l.map (·.1), ?_, fun p hp => ?_⟩
  · rw [List.length_map, List.flatMap_map]; exact hl
  · obtain ⟨x, _, rfl⟩ := List.mem_map.1 hp
    exact x.2
end
end Go.Proofs.YtkgckmdhlokjmaaDoor
