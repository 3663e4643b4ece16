/-
  The lane, part H: fields, pointers compared, pointers seen otherwise, functions of the model's own, and a builder of texts.
  Generic in the program.
-/
import Derived.Test.YtilnoklpikblgaaLaneG
import Derived.Lib.Builder
import Derived.Lib.UnsafeStr
import Derived.WalkKit
import Derived.Laws.Pointers
import Derived.Laws.Externs
namespace Go.Lane
open Go.RowKit (Below)
section
variable {P : Program} {n : Nat} {E : Slots} {w : World} {K : Slots → World → Prop} {ops : Array Oper} {rest : List Oper} {d : Tmp} {t ty : TypeId} {pos : String} {aft : Array Edge} {x y : Operand}

theorem TL.nilCheck {a : Addr} (hx : ev E x = some (.pointer (some a))) (hd : Nat.blt d n = true)
    (h : TL P n ops rest ((d, .pointer (some a)) :: E) w K) : TL P n ops (⟨some d, .nilCheck x, ty, pos, aft, none⟩ :: rest) E w K :=
  TL.val hd _ (fun a' ha => by simp [execOp, ha.eval hx]) h

/-- The same where the order is open. -/
theorem TH.takeNil {S : World → Prop} {fuel : Nat} {listed : Array Bool} {i : Nat} {a : Addr} (hi : ops[i]? = some ⟨some d, .nilCheck x, ty, pos, aft, none⟩) (hx : ev E x = some (.pointer (some a))) (hdn : Nat.blt d n = true)
    (hs : Region.noSelect ops = true) (hf : Region.free .any ops listed i = true) (hr : (Region.ready .any ops listed).contains i = true) (hS : S w)
    (h : TH P n ops S fuel (listed.setIfInBounds i true) ((d, .pointer (some a)) :: E) w K) : TH P n ops S (fuel + 1) listed E w K := ⟨fun ac ha =>
  wpAnyH_take (v := .pointer (some a)) hi hs hf hr (fun _ _ _ h => onNormal_panic h) (.inl ⟨by simp [Region.wanted], fun w' _ => by simp [execOp, ha.eval hx]⟩) hS (h.run _ (ha.put (d := some d) (by simpa [fits] using hdn) _))⟩

/-- Field number 'k' of a struct: its type, where it begins, how many cells it has. -/
def FieldT (P : Program) (t : TypeId) (k : Nat) (e : TypeId) (off sz : Nat) : Prop := ∃ fs f, P.underlying t = some (.struct fs) ∧ fs[k]? = some f ∧ f.type = e ∧ f.offset = off ∧ (P.info? e).map (·.size) = some sz ∧ 0 < sz
theorem TL.fieldAddr {k off sz b o : Nat} {e : TypeId} (ht : FieldT P t k e off sz) (hx : ev E x = some (.pointer (some ⟨b, o, none⟩))) (hd : Nat.blt d n = true)
    (h : TL P n ops rest ((d, .pointer (some ⟨b, o + off, none⟩)) :: E) w K) : TL P n ops (⟨some d, .fieldAddr t x k, ty, pos, aft, none⟩ :: rest) E w K := by
  obtain ⟨fs, f, h1, h2, h3, h4, h5, h6⟩ := ht
  subst h3 h4
  exact TL.val hd _ (fun a' ha => by simp [execOp, ha.eval hx, Instr.fieldAt, Instr.sureAddr, run_underlying h1, h2, fieldPlace, run_sizeOf' h5, Addr.add_lit, Nat.ne_of_gt h6]) h
theorem TL.field {k off : Nat} {e : TypeId} {cs : Array Value} {v : Value} (ht : FieldT P t k e off 1) (hp : Plain P e) (hx : ev E x = some (.agg cs)) (hv : cs[off]? = some v) (hd : Nat.blt d n = true)
    (h : TL P n ops rest ((d, v) :: E) w K) : TL P n ops (⟨some d, .field t x k, ty, pos, aft, none⟩ :: rest) E w K := by
  obtain ⟨fs, f, h1, h2, h3, h4, h5, h6⟩ := ht
  subst h3 h4
  exact TL.val hd _ (fun a' ha => by simp [execOp, ha.eval hx, Instr.field, asAgg, run_underlying h1, h2, part, run_isAgg_plain hp, hv]) h

theorem TL.eqlPtrNil {yt e : TypeId} {a : Option Addr} (ht : P.underlying t = some (.pointer e)) (hx : ev E x = some (.pointer a)) (hy : ev E y = some (.pointer none)) (hd : Nat.blt d n = true)
    (h : TL P n ops rest ((d, .bool (decide (a = none))) :: E) w K) : TL P n ops (⟨some d, .binOp .eql t x y yt, ty, pos, aft, none⟩ :: rest) E w K := by
  have hp : P.underlying t = some (.pointer (P.pointee t)) := by rw [Program.pointee, ht]
  refine TL.bin hx hy (guard_ptr _ _ _ _ _ _ _) ?_ hd h
  rw [run_eql_pointer_nil w t a hp]; cases a <;> rfl
theorem TL.neqPtrNil {yt e : TypeId} {a : Option Addr} (ht : P.underlying t = some (.pointer e)) (hx : ev E x = some (.pointer a)) (hy : ev E y = some (.pointer none)) (hd : Nat.blt d n = true)
    (h : TL P n ops rest ((d, .bool (decide (a ≠ none))) :: E) w K) : TL P n ops (⟨some d, .binOp .neq t x y yt, ty, pos, aft, none⟩ :: rest) E w K := by
  have hp : P.underlying t = some (.pointer (P.pointee t)) := by rw [Program.pointee, ht]
  refine TL.bin hx hy (guard_ptr _ _ _ _ _ _ _) ?_ hd h
  rw [run_neq_pointer_nil w t a hp]; cases a <;> rfl
/-- A call of a function that the model itself stands in for. -/
theorem TL.modelFn {f : FuncId} {fn : Func} {e : Array Value → Sem Value} {xs : List Operand} {ts : Array TypeId} {vs : List Value} {v : Value} (hf : P.funcs[f]? = some fn) (hname : (fn.name == "runtime.NumGoroutine") = false)
    (hb : fn.body.isNone = true) (hn : Extern.findNext fn = none) (he : Extern.find fn = some e) (hxs : evs E xs = some vs) (hrun : (e vs.toArray).run P w = .ok v w) (hd : Nat.blt d n = true)
    (h : TL P n ops rest ((d, v) :: E) w K) : TL P n ops (⟨some d, .call { callee := .value (.func f), args := xs.toArray, argTypes := ts }, ty, pos, aft, none⟩ :: rest) E w K :=
  TL.val hd _ (fun a' ha => by
    have e1 := ha.evals hxs
    simp [execOp, resolve, Act.eval, Deferred.ofValue, invoke, run_callFunc_extern hf hname hb hn he, e1, hrun]) h
theorem TL.neqPtrSame {yt e : TypeId} {j : TypeInfo} {a : Addr} (ht : P.underlying t = some (.pointer e)) (hj : P.info? e = some j) (hx : ev E x = some (.pointer (some a))) (hy : ev E y = some (.pointer (some a))) (hd : Nat.blt d n = true)
    (h : TL P n ops rest ((d, .bool false) :: E) w K) : TL P n ops (⟨some d, .binOp .neq t x y yt, ty, pos, aft, none⟩ :: rest) E w K :=
  TL.bin hx hy (guard_ptr _ _ _ _ _ _ _) (Lib.run_neq_ptr_same w a ht hj) hd h

theorem TL.toUnsafe {src te e : TypeId} {j : TypeInfo} {cells b o : Nat} (hs : P.underlying src = some (.pointer te)) (ht : P.underlying t = some .unsafePointer) (hj : P.info? te = some j) (hz : j.size ≠ 0) (hsh : w.shape? b = some (e, cells)) (ho : o < cells)
    (hx : ev E x = some (.pointer (some ⟨b, o, none⟩))) (hd : Nat.blt d n = true)
    (h : TL P n ops rest ((d, .pointer (some ⟨b, o, none⟩)) :: E) w K) : TL P n ops (⟨some d, .convert src t x, ty, pos, aft, none⟩ :: rest) E w K :=
  TL.val hd _ (fun a' ha => by simp only [execOp, ha.eval hx, Sem.run_bind, Lib.run_to_unsafe w ⟨b, o, none⟩ hs ht hj hz hsh ho, Result.andThen_ok, Sem.run_pure]) h
theorem TL.fromUnsafe {src u e : TypeId} {j : TypeInfo} {cells b o : Nat} (hs : P.underlying src = some .unsafePointer) (ht : P.underlying t = some (.pointer u)) (hj : P.info? u = some j) (hsh : w.shape? b = some (e, cells)) (hl : liesAt P P.depth e (cells / P.cellsOf e) o u 1 = true)
    (hx : ev E x = some (.pointer (some ⟨b, o, none⟩))) (hd : Nat.blt d n = true)
    (h : TL P n ops rest ((d, .pointer (some ⟨b, o, none⟩)) :: E) w K) : TL P n ops (⟨some d, .convert src t x, ty, pos, aft, none⟩ :: rest) E w K :=
  TL.val hd _ (fun a' ha => by simp only [execOp, ha.eval hx, Sem.run_bind, Lib.run_from_unsafe w ⟨b, o, none⟩ hs ht hj hsh hl, Result.andThen_ok, Sem.run_pure]) h

theorem Ch.toBelow {S : List Nat} {B : Nat} {w w' : World} (h : Ch S w w') (hS : ∀ x ∈ S, B ≤ x) (hB : B ≤ w.heap.size) : Below B w w' :=
  ⟨h.os, h.tape, h.output, h.size, fun k hk => h.block k (Nat.lt_of_lt_of_le hk hB) (fun hm => absurd (hS k hm) (by omega))⟩
theorem Ch.thenBelow {B : Nat} {a b c : World} (h : Ch [] a b) (k : Below B b c) (hB : a.heap.size ≤ B) : Ch [] a c :=
  ⟨k.os.trans h.os, k.tape.trans h.tape, k.output.trans h.output, Nat.le_trans h.size k.size, fun i hi hn => (k.block i (by omega)).trans (h.block i hi hn)⟩
theorem Own.below {B base sz : Nat} {w w' : World} {e : TypeId} {v : Value} {m : Nat} {cs : List Value} (h : Own w base e sz v m cs) (k : Below B w w') (hB : ∀ g, v.ownBlock = some g → g < B) : Own w' base e sz v m cs := by
  rcases h.2 with ⟨rfl, rfl⟩ | ⟨g, c, cur, rfl, hb, hg, h3, h4, h5, h6⟩
  · exact ⟨h.1, .inl ⟨rfl, rfl⟩⟩
  · exact ⟨h.1, .inr ⟨g, c, cur, rfl, hb, by rw [k.block g (hB g rfl)]; exact hg, h3, h4, h5, h6⟩⟩
end
end Go.Lane
