/-
  Walks through the given program: each theorem fnN says what the call of function N of the translation hands back, for all arguments that its premises describe, and that nothing that was there has turned.
-/
import Derived.Test.YtilnoklpikblgaaE11
namespace Go.Proofs.Ytilnoklpikblgaa
open Go.Lane
theorem fd51k1 : FieldT Try.prog 51 1 4 1 1 := ⟨_, _, Try.underlying51, rfl, rfl, rfl, by kernel_rfl, by decide⟩

theorem fn23zero (H : Nat) (w : World) (hH : Has w H #[.slice none 0 0, .bool false] 51 (0, 0)) : Rets Try.prog 23 #[.pointer (some ⟨H, 0, none⟩)] w (fun r w' => r = .tuple #[.agg (cl e0).toArray, .bool false, .int .i64 1] ∧ Ch [] w w') := by
  refine Rets.of (n := 38) (vs := [_]) Try.func23 rfl rfl rfl ?_
  refine TC.seq ?_
  refine TC.region ?_
  refine TL.alloc ze32 rfl (fun w2 hb2 hc2 hz2 => ?_)
  refine TL.assign rfl rfl ?_
  refine TL.assign rfl rfl ?_
  refine TL.done ?_
  refine Thn.go ?_
  refine TC.seq ?_
  refine TC.seq ?_
  refine TC.region ?_
  refine TL.move rfl rfl ?_
  refine TL.eqlPtrNil Try.underlying43 rfl rfl rfl ?_
  refine TL.no (by simp) ?_
  refine TL.move rfl rfl ?_
  refine TL.guardYes (d := 8) rfl rfl rfl ?_
  refine TL.move rfl rfl ?_
  refine TL.guardYes (d := 8) rfl rfl rfl ?_
  refine TL.nilCheck rfl rfl ?_
  refine TL.guardYes (d := 8) rfl rfl rfl ?_
  refine TL.fieldAddr fd51k1 rfl rfl ?_
  refine TL.guardYes (d := 8) rfl rfl rfl ?_
  refine TL.load pl4 rfl ((hH.ch0 hc2).cell 1) rfl ?_
  refine TL.guardYes (d := 8) rfl rfl rfl ?_
  refine TL.not rfl rfl ?_
  refine TL.pickF rfl rfl rfl rfl ?_
  refine TL.done ?_
  refine Thn.go ?_
  refine TC.condT rfl rfl ?_
  refine TC.seq ?_
  refine TC.region ?_
  refine TL.buildRec [] [] (cl e0) rfl rfl (by kernel_rfl) rfl ?_
  refine TL.store sz32 rfl rfl rfl hb2 (by simp [Value.cells]) (by simpa [Value.cells] using cl_one e0) (.inl rfl) (fun ws1 hbs1 hcs1 hzs1 => ?_)
  replace hbs1 : Has ws1 w.heap.size (cl e0).toArray 32 (0, 0) := hbs1.setAll rfl
  refine TL.assign rfl rfl ?_
  refine TL.assign rfl rfl ?_
  refine TL.done ?_
  refine Thn.go ?_
  refine TC.ret ?_
  refine Thn.ret ?_
  refine Ends.cell3 (cl e0) (.inl rfl) rfl ag32 rfl rfl (fun j _ => by rw [hbs1.cell, Nat.zero_add, List.getElem?_toArray]) rfl rfl ?_
  exact ⟨rfl, hc2.then1 hcs1 (Nat.le_refl _)⟩

