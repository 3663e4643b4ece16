/-
  Walks through the given program: each theorem fnN says what the call of function N of the translation hands back, for all arguments that its premises describe, and that nothing that was there has turned.
-/
import Derived.Test.YteogahcefkepaaaS9
namespace Go.Proofs.Yteogahcefkepaaa
open Go.Lane


theorem fn24zero (Q : Nat) (mv dv : Value) (w : World) (hQ : Has w Q #[.pointer none, mv, dv] 52 (0, 0)) : Rets Try.prog 24 #[.pointer (some ⟨Q, 0, none⟩)] w (fun r w' => r = .bool true ∧ w' = w) := by
  refine Rets.of (n := 12) (vs := [_]) Try.func24 rfl rfl rfl ?_
  refine TC.seq ?_
  refine TC.region ?_
  refine TL.assign rfl rfl ?_
  refine TL.done ?_
  refine Thn.go ?_
  refine TC.seq ?_
  refine TC.region ?_
  refine TL.move rfl rfl ?_
  refine TL.eqlPtrNil Try.underlying25 rfl rfl rfl ?_
  refine TL.no (by simp) ?_
  refine TL.move rfl rfl ?_
  refine TL.guardYes (d := 5) rfl rfl rfl ?_
  refine TL.move rfl rfl ?_
  refine TL.guardYes (d := 5) rfl rfl rfl ?_
  refine TL.nilCheck rfl rfl ?_
  refine TL.guardYes (d := 5) rfl rfl rfl ?_
  refine TL.fieldAddr fd52k0 rfl rfl ?_
  refine TL.guardYes (d := 5) rfl rfl rfl ?_
  refine TL.load pl49 rfl (hQ.cell 0) rfl ?_
  refine TL.guardYes (d := 5) rfl rfl rfl ?_
  refine TL.eqlPtrNil Try.underlying49 rfl rfl rfl ?_
  refine TL.pickF rfl rfl rfl rfl ?_
  refine TL.assign rfl rfl ?_
  refine TL.done ?_
  refine Thn.go ?_
  refine TC.ret ?_
  refine Ends.ret [2] rfl rfl ?_
  exact ⟨by show Value.bool (decide _) = _; simp, rfl⟩

theorem fn12zero (Q : Nat) (mv dv : Value) (k : List UInt8) (q : Int) (w : World) (hQ : Has w Q #[.pointer none, mv, dv] 52 (0, 0)) : Rets Try.prog 12 #[.pointer (some ⟨Q, 0, none⟩), str k, .int .i64 q] w (fun r w' => r = .tuple #[.agg (cl e0).toArray, .bool false, .int .i64 1] ∧ Ch [] w w') := by
  refine Rets.of (n := 48) (vs := [_, _, _]) Try.func12 rfl rfl rfl ?_
  refine TC.seq ?_
  refine TC.region ?_
  refine TL.alloc ze30 rfl (fun w6 hb6 hc6 hz6 => ?_)
  refine TL.assign rfl rfl ?_
  refine TL.assign rfl rfl ?_
  refine TL.done ?_
  refine Thn.go ?_
  refine TC.seq ?_
  refine TC.seq ?_
  refine TC.region ?_
  refine TL.move rfl rfl ?_
  refine TL.call can24 rfl rfl (fn24zero Q _ _ w6 (hQ.ch0 hc6)) (fun v12 w12 hr12 => ?_)
  obtain ⟨rfl, h12⟩ := hr12
  have hc12 : Ch [] w6 w12 := by rw [h12]; exact Ch.refl _ _
  refine TL.done ?_
  refine Thn.go ?_
  refine TC.condT rfl rfl ?_
  refine TC.seq ?_
  refine TC.region ?_
  refine TL.buildRec [] [] (cl e0) rfl rfl (by kernel_rfl) rfl ?_
  refine TL.store sz30 rfl rfl rfl (hb6.ch0 hc12) (by simp [Value.cells]) (by simpa [Value.cells] using cl_one e0) (.inl rfl) (fun ws1 hbs1 hcs1 hzs1 => ?_)
  replace hbs1 : Has ws1 w.heap.size (cl e0).toArray 30 (0, 0) := hbs1.setAll rfl
  refine TL.assign rfl rfl ?_
  refine TL.assign rfl rfl ?_
  refine TL.done ?_
  refine Thn.go ?_
  refine TC.ret ?_
  refine Thn.ret ?_
  refine Ends.cell3 (cl e0) (.inl rfl) rfl ag30 rfl rfl (fun j _ => by rw [hbs1.cell, Nat.zero_add, List.getElem?_toArray]) rfl rfl ?_
  exact ⟨rfl, (hc6.trans0 hc12).then1 hcs1 (Nat.le_refl _)⟩

