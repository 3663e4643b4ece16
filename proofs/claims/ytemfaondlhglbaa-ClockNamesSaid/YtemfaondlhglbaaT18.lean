/-
  Walks through the given program: each theorem fnN says what the call of function N of the translation hands back, for all arguments that its premises describe, and that nothing that was there has turned.
-/
import Derived.Test.YtemfaondlhglbaaT17
namespace Go.Proofs.Ytemfaondlhglbaa
open Go.Lane


theorem fn11nil (t : Tm.Timer) (w : World) : Rets Try.prog 11 #[.pointer none, .agg (cl t).toArray] w (fun r w' => r = .int .i64 1 ∧ Ch [] w w') := by
  refine Rets.of (n := 40) (vs := [_, _]) Try.func11 rfl rfl rfl ?_
  refine TC.seq ?_
  refine TC.region ?_
  refine TL.box rfl rfl (fun w3 hb3 hc3 hz3 => ?_)
  refine TL.assign rfl rfl ?_
  refine TL.done ?_
  refine Thn.go ?_
  refine TC.seq ?_
  refine TC.block ?_
  refine TC.seq ?_
  refine TC.region ?_
  refine TL.move rfl rfl ?_
  refine TL.eqlPtrNil Try.underlying23 rfl rfl rfl ?_
  refine TL.yes (rfl) ?_
  refine TL.move rfl rfl ?_
  refine TL.guardNo (d := 8) rfl rfl rfl rfl rfl ?_
  refine TL.guardNo (d := 8) rfl rfl rfl rfl rfl ?_
  refine TL.guardNo (d := 8) rfl rfl rfl rfl rfl ?_
  refine TL.guardNo (d := 8) rfl rfl rfl rfl rfl ?_
  refine TL.guardNo (d := 8) rfl rfl rfl rfl rfl ?_
  refine TL.pickT rfl rfl rfl rfl ?_
  refine TL.assign rfl rfl ?_
  refine TL.done ?_
  refine Thn.go ?_
  refine TC.condT rfl rfl ?_
  refine TC.seq ?_
  refine TC.region ?_
  refine TL.assign rfl rfl ?_
  refine TL.done ?_
  refine Thn.go ?_
  refine TC.ret ?_
  refine Blk.ret ?_
  refine Thn.ret ?_
  refine Ends.ret [4] rfl rfl ?_
  exact ⟨rfl, hc3⟩

