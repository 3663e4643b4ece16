/-
  Walks through the given program: each theorem fnN says what the call of function N of the translation hands back, for all arguments that its premises describe, and that nothing that was there has turned.
-/
import Derived.Test.YtilnoklpikblgaaE10
namespace Go.Proofs.Ytilnoklpikblgaa
open Go.Lane


theorem fn23nil (w : World) : Rets Try.prog 23 #[.pointer none] w (fun r w' => r = .tuple #[.agg (cl e0).toArray, .bool false, .int .i64 1] ∧ Ch [] w w') := by
  refine Rets.of (n := 38) (vs := [_]) Try.func23 rfl rfl rfl ?_
  refine TC.seq ?_
  refine TC.region ?_
  refine TL.alloc ze32 rfl (fun w2 hb2 hc2 hz2 => ?_)
  refine TL.assign rfl rfl ?_
  refine TL.assign rfl rfl ?_
  refine TL.done ?_
  refine Thn.go ?_
  refine TC.seq ?_
  refine TC.seq ?_
  refine TC.region ?_
  refine TL.move rfl rfl ?_
  refine TL.eqlPtrNil Try.underlying43 rfl rfl rfl ?_
  refine TL.yes (rfl) ?_
  refine TL.move rfl rfl ?_
  refine TL.guardNo (d := 8) rfl rfl rfl rfl rfl ?_
  refine TL.guardNo (d := 8) rfl rfl rfl rfl rfl ?_
  refine TL.guardNo (d := 8) rfl rfl rfl rfl rfl ?_
  refine TL.guardNo (d := 8) rfl rfl rfl rfl rfl ?_
  refine TL.guardNo (d := 8) rfl rfl rfl rfl rfl ?_
  refine TL.pickT rfl rfl rfl rfl ?_
  refine TL.done ?_
  refine Thn.go ?_
  refine TC.condT rfl rfl ?_
  refine TC.seq ?_
  refine TC.region ?_
  refine TL.buildRec [] [] (cl e0) rfl rfl (by kernel_rfl) rfl ?_
  refine TL.store sz32 rfl rfl rfl hb2 (by simp [Value.cells]) (by simpa [Value.cells] using cl_one e0) (.inl rfl) (fun ws1 hbs1 hcs1 hzs1 => ?_)
  replace hbs1 : Has ws1 w.heap.size (cl e0).toArray 32 (0, 0) := hbs1.setAll rfl
  refine TL.assign rfl rfl ?_
  refine TL.assign rfl rfl ?_
  refine TL.done ?_
  refine Thn.go ?_
  refine TC.ret ?_
  refine Thn.ret ?_
  refine Ends.cell3 (cl e0) (.inl rfl) rfl ag32 rfl rfl (fun j _ => by rw [hbs1.cell, Nat.zero_add, List.getElem?_toArray]) rfl rfl ?_
  exact ⟨rfl, hc2.then1 hcs1 (Nat.le_refl _)⟩

