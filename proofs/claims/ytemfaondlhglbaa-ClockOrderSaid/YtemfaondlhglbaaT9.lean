/-
  Walks through the given program: each theorem fnN says what the call of function N of the translation hands back, for all arguments that its premises describe, and that nothing that was there has turned.
-/
import Derived.Test.YtemfaondlhglbaaT8
namespace Go.Proofs.Ytemfaondlhglbaa
open Go.Lane

/-- The timer of the examples. -/
def atT (n q : Int) : Tm.Timer := ⟨n, q, 1, [115], [101]⟩

theorem fn23 (p q : Int) (w : World) : Rets Try.prog 23 #[.int .i64 p, .int .i64 q] w (fun v w' => v = .agg (cl (atT p q)).toArray ∧ Ch [] w w') := by
  refine Rets.of (n := 8) (vs := [_, _]) Try.func23 rfl rfl rfl ?_
  refine TC.seq ?_
  refine TC.region ?_
  refine TL.alloc ze27 rfl (fun w4 hb4 hc4 hz4 => ?_)
  refine TL.done ?_
  refine Thn.go ?_
  refine TC.seq ?_
  refine TC.region ?_
  refine TL.move rfl rfl ?_
  refine TL.move rfl rfl ?_
  refine TL.buildRec [0, 1, 2, 3, 4] [.tmp 5, .tmp 6, .const (Value.int IntKind.i64 1), .const (Value.string {data := #[115]}), .const (Value.string {data := #[101]})] (cl (atT p q)) rfl rfl (by kernel_rfl) rfl ?_
  refine TL.store sz27 rfl rfl rfl hb4 (by simp [Value.cells]) (by simpa [Value.cells] using cl_one (atT p q)) (.inl rfl) (fun ws1 hbs1 hcs1 hzs1 => ?_)
  replace hbs1 : Has ws1 w.heap.size (cl (atT p q)).toArray 27 (0, 0) := hbs1.setAll rfl
  refine TL.done ?_
  refine Thn.go ?_
  refine TC.ret ?_
  refine Ends.cell (cl (atT p q)) (.inl rfl) rfl ag27 rfl rfl (fun j _ => by rw [hbs1.cell, Nat.zero_add, List.getElem?_toArray]) ?_
  exact ⟨rfl, hc4.then1 hcs1 (Nat.le_refl _)⟩

