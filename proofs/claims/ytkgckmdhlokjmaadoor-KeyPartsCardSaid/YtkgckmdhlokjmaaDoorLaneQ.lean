/-
  The lane: calls of function values in regions that draw their order; a row of zeros put to nothing.
-/
import Derived.Test.YtkgckmdhlokjmaaDoorLaneN
namespace Go.Lane
open Go.Deep
variable {P : Program} {n : Nat} {ops : Array Oper} {rest : List Oper} {E : Slots} {d : Tmp} {ty : TypeId} {pos : String} {aft : Array Edge} {C : World → Prop} {KQ : Slots → Prop}
theorem TQ.callVal {f : FuncId} {g : Operand} {first captured : Array Value} {xs : List Operand} {ts : Array TypeId} {vs : List Value} (hf : Callable P f) (v : Value)
    (hgv : ev E g = some (.func (.func f) first captured)) (hxs : evs E xs = some vs) (hd : Nat.blt d n = true) (hc : ∀ w, C w → Rets P f (first ++ vs.toArray ++ captured) w (fun r w' => r = v ∧ C w'))
    (h : TQ P n ops C rest ((d, v) :: E) KQ) : TQ P n ops C (⟨some d, .call { callee := .value g, args := xs.toArray, argTypes := ts }, ty, pos, aft, none⟩ :: rest) E KQ := ⟨fun a ha => by
  refine wpQuiet_step fun K hK => ?_
  simp only [Region.wanted, if_true]
  refine ⟨v, fun w hw => ?_, hK _ (h.run _ (ha.put (d := some d) (by simpa [fits] using hd) v))⟩
  unfold Oper.quietAt
  have e := ha.evals hxs
  have hr : (execOp a.eval ⟨some d, .call { callee := .value g, args := xs.toArray, argTypes := ts }, ty, pos, aft, none⟩).run P w = .ok (.enter f (first ++ vs.toArray ++ captured)) w := by
    simp [execOp, resolve, ha.eval hgv, Deferred.ofValue, invoke, run_callFunc hf, e]
  rw [hr]
  exact ⟨rfl, Calls.mono (hc w hw) fun _ _ ⟨r, he, hr, hC⟩ => ⟨by rw [he, hr], hC⟩⟩⟩
/-- append(nil, make([]T, k)...): a new row. -/
theorem TL.appendNilZeros {w : World} {K : Slots → World → Prop} {x y : Operand} {t u e : TypeId} {d : Option Tmp} {k sz by_ : Nat} {z : Value} {kn kq : IntKind} {kk : Int} (ht : SliceT P t e sz by_ z) (hu : P.underlying u = some (.int kn)) (hx : ev E x = some (.slice none 0 0)) (hy : ev E y = some (.int kq kk)) (hkk : kk = (k : Int))
    (hd : fits n d = true) (h0 : 0 < k) (hmax : k ≤ maxLen) (hbytes : k * by_ ≤ 140737488355328)
    (h : ∀ c' cur w', Has w' w.heap.size cur e (0, 0) → cur.size = c' * sz → k ≤ c' → c' ≤ maxLen → Ch [] w w' → w'.heap.size = w.heap.size + 1 → TL P n ops rest (upd E d (.slice (some ⟨w.heap.size, 0, none⟩) k c')) w' K) :
    TL P n ops (⟨d, .call { callee := .builtin .append, args := #[x, y], argTypes := #[t, u] }, ty, pos, aft, none⟩ :: rest) E w K := by
  obtain ⟨i, hi, hz, hsz, hby⟩ := ht.info
  have hzc := ht.cells
  have hpos := ht.pos
  have hmm : maxLen = 9223372036854775807 := rfl
  subst hkk
  have hrun := Lib.run_append_nil_zeros (P := P) w t u ty e i z kq kn ht.under hu hi hz k h0 (by omega) (by omega) (by rw [hby]; omega)
  have hge := grownCap_ge w k 0 e
  have hcm : grownCap w k 0 e ≤ maxLen := grownCap_le_maxLen w k 0 e hmax
  have hs1 : (Builtin.zeroCells z.cells k ++ Builtin.zeroCells z.cells (grownCap w k 0 e - k)).size = grownCap w k 0 e * sz := by
    simp only [Array.size_append, size_zeroCells, hzc, ← Nat.add_mul]
    congr 1
    omega
  refine TL.op rfl hd _ (w.drew.alloc (.cells (Builtin.zeroCells z.cells k ++ Builtin.zeroCells z.cells (grownCap w k 0 e - k)) e)) (fun a ha => ?_)
    (h (grownCap w k 0 e) _ _ (heap_alloc_new w.drew _) hs1 hge hcm ((Ch.drew [] w).trans0 (Ch.alloc [] w.drew _)) (by simp))
  simp only [execOp, resolve, Go.invoke, builtin, Sem.run_bind, Sem.run_pure, Result.andThen_ok, List.map_toArray, List.map_cons, List.map_nil, ha.eval hx, ha.eval hy, hrun]
end Go.Lane
