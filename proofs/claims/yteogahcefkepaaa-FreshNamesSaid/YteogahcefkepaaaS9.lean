/-
  Walks through the given program: each theorem fnN says what the call of function N of the translation hands back, for all arguments that its premises describe, and that nothing that was there has turned.
-/
import Derived.Test.YteogahcefkepaaaS8
namespace Go.Proofs.Yteogahcefkepaaa
open Go.Lane


theorem fn24nil (w : World) : Rets Try.prog 24 #[.pointer none] w (fun r w' => r = .bool true ∧ w' = w) := by
  refine Rets.of (n := 12) (vs := [_]) Try.func24 rfl rfl rfl ?_
  refine TC.seq ?_
  refine TC.region ?_
  refine TL.assign rfl rfl ?_
  refine TL.done ?_
  refine Thn.go ?_
  refine TC.seq ?_
  refine TC.region ?_
  refine TL.move rfl rfl ?_
  refine TL.eqlPtrNil Try.underlying25 rfl rfl rfl ?_
  refine TL.yes (by simp) ?_
  refine TL.move rfl rfl ?_
  refine TL.guardNo (d := 5) rfl rfl rfl rfl rfl ?_
  refine TL.guardNo (d := 5) rfl rfl rfl rfl rfl ?_
  refine TL.guardNo (d := 5) rfl rfl rfl rfl rfl ?_
  refine TL.guardNo (d := 5) rfl rfl rfl rfl rfl ?_
  refine TL.guardNo (d := 5) rfl rfl rfl rfl rfl ?_
  refine TL.pickT rfl rfl rfl rfl ?_
  refine TL.assign rfl rfl ?_
  refine TL.done ?_
  refine Thn.go ?_
  refine TC.ret ?_
  refine Ends.ret [2] rfl rfl ?_
  exact ⟨rfl, rfl⟩

theorem fn14nil (w : World) : Rets Try.prog 14 #[.pointer none] w (fun r w' => r = .tuple #[.slice none 0 0, .int .i64 1] ∧ Ch [] w w') := by
  refine Rets.of (n := 33) (vs := [_]) Try.func14 rfl rfl rfl ?_
  refine TC.seq ?_
  refine TC.region ?_
  refine TL.assign rfl rfl ?_
  refine TL.assign rfl rfl ?_
  refine TL.done ?_
  refine Thn.go ?_
  refine TC.seq ?_
  refine TC.seq ?_
  refine TC.region ?_
  refine TL.move rfl rfl ?_
  refine TL.call can24 rfl rfl (fn24nil w) (fun v7 w7 hr7 => ?_)
  obtain ⟨rfl, h7⟩ := hr7
  have hc7 : Ch [] w w7 := by rw [h7]; exact Ch.refl _ _
  refine TL.done ?_
  refine Thn.go ?_
  refine TC.condT rfl rfl ?_
  refine TC.seq ?_
  refine TC.region ?_
  refine TL.assign rfl rfl ?_
  refine TL.assign rfl rfl ?_
  refine TL.done ?_
  refine Thn.go ?_
  refine TC.ret ?_
  refine Thn.ret ?_
  refine Ends.ret [2, 3] rfl rfl ?_
  exact ⟨rfl, hc7⟩

theorem fn10nil (x : En.Entry) (w : World) : Rets Try.prog 10 #[.pointer none, .agg (cl x).toArray] w (fun r w' => r = .int .i64 1 ∧ Ch [] w w') := by
  refine Rets.of (n := 90) (vs := [_, _]) Try.func10 rfl rfl rfl ?_
  refine TC.seq ?_
  refine TC.region ?_
  refine TL.box rfl rfl (fun w3 hb3 hc3 hz3 => ?_)
  refine TL.assign rfl rfl ?_
  refine TL.done ?_
  refine Thn.go ?_
  refine TC.seq ?_
  refine TC.seq ?_
  refine TC.region ?_
  refine TL.move rfl rfl ?_
  refine TL.call can24 rfl rfl (fn24nil w3) (fun v11 w11 hr11 => ?_)
  obtain ⟨rfl, h11⟩ := hr11
  have hc11 : Ch [] w3 w11 := by rw [h11]; exact Ch.refl _ _
  refine TL.done ?_
  refine Thn.go ?_
  refine TC.condT rfl rfl ?_
  refine TC.seq ?_
  refine TC.region ?_
  refine TL.assign rfl rfl ?_
  refine TL.done ?_
  refine Thn.go ?_
  refine TC.ret ?_
  refine Thn.ret ?_
  refine Ends.ret [4] rfl rfl ?_
  exact ⟨rfl, hc3.trans0 hc11⟩

