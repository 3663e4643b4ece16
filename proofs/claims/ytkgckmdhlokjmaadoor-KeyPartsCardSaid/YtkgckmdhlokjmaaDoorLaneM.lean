/-
  The lane, part M: copy of elements of several cells.
  Generic in the program.
-/
import Derived.Test.YtkgckmdhlokjmaaDoorLaneL
namespace Go.Lane
open Go.RowKit
theorem run_copy_rows {P : Program} (w : World) (dT sT ty elem : TypeId) (g o dLen dCap : Nat) (a : Addr) (sLen sCap sz : Nat) (cur : Array Value) (t : TypeId) (cs : List Value)
    (hu : P.underlying dT = some (.slice elem)) (hs : (P.info? elem).map (·.size) = some sz)
    (hg : Has w g cur t (0, 0)) (hn : cs.length = sLen * sz) (hle : sLen ≤ dLen)
    (hsrc : ∀ j v, cs[j]? = some v → w.cell? (a.add j) = some v) (hfit : o + cs.length ≤ cur.size) (h1 : ∀ v ∈ cs, v.oneCell' = true) :
    (Builtin.copy_ #[dT, sT] ty #[.slice (some ⟨g, o, none⟩) dLen dCap, .slice (some a) sLen sCap]).run P w = .ok (goInt sLen) (w.setRow g (spl cur o cs)) := by
  have hl := run_loadCells_list (P := P) w a cs hsrc
  have hst := run_storeCells_spl (P := P) g t (0, 0) o cs cur w hg hfit h1 (by intro i _ _ h3; simp at h3)
  have hmin : Nat.min sLen dLen = sLen := Nat.min_eq_left hle
  cases hq : P.info? elem with
  | none => simp [hq] at hs
  | some i =>
    have hi : i.size = sz := by simpa [hq] using hs
    simp [Builtin.copy_, run_underlying hu, Builtin.lenOf, Builtin.firstCells, sizeOf, typeInfo, hq, hi, hmin, ← hn, hl, hst]
section
variable {P : Program} {n : Nat} {E : Slots} {w : World} {K : Slots → World → Prop} {ops : Array Oper} {rest : List Oper} {d : Option Tmp} {t u ty : TypeId} {pos : String} {aft : Array Edge} {x y : Operand}
/-- copy(x, y) of elements of several cells, where all of 'y' fits and 'y' is not empty; 'y' may lie in the same block. -/
theorem TL.copyN {e g off dl dc sl sz : Nat} {sv : Value} {cs : List Value} {cur : Array Value} {tb : TypeId} (hu : P.underlying t = some (.slice e)) (hs : (P.info? e).map (·.size) = some sz) (hx : ev E x = some (.slice (some ⟨g, off, none⟩) dl dc)) (hy : ev E y = some sv)
    (hd : fits n d = true) (hsv : Rd w sv sz sl cs) (hpos : 0 < sl) (hle : sl ≤ dl) (hg : Has w g cur tb (0, 0)) (hfit : off + sl * sz ≤ cur.size) (h1 : ∀ v ∈ cs, v.oneCell' = true)
    (h : ∀ w', Has w' g (spl cur off cs) tb (0, 0) → Ch [g] w w' → w'.heap.size = w.heap.size → TL P n ops rest (upd E d (.int .i64 (sl : Int))) w' K) :
    TL P n ops (⟨d, .call { callee := .builtin .copy, args := #[x, y], argTypes := #[t, u] }, ty, pos, aft, none⟩ :: rest) E w K := by
  have hl := hsv.len
  rcases hsv with ⟨⟨ad, rfl⟩, rfl, rfl⟩ | ⟨b, o, c, cur', t', fr, rfl, hh, g1, g2, g3, hcs⟩
  · omega
  · have hrun := run_copy_rows (P := P) w t u ty e g off dl dc ⟨b, o, none⟩ sl c sz cur tb cs hu hs hg hl hle (fun j v hj => by
      rw [Addr.add_lit, hh.cell]
      rw [hcs, List.getElem?_take] at hj
      split at hj
      · simpa using hj
      · cases hj) (by rw [hl]; exact hfit) h1
    refine TL.op rfl hd (.int .i64 (sl : Int)) (w.setRow g (spl cur off cs)) (fun a ha => ?_) (h _ (setRow_heap w g cur _ tb _ hg) ⟨rfl, rfl, rfl, by simp [World.setRow], fun k _ hk => setRow_other w g k _ (by simpa using hk)⟩ (by simp [World.setRow]))
    simp only [execOp, resolve, invoke, builtin, Sem.run_bind, Sem.run_pure, Result.andThen_ok, List.map_toArray, List.map_cons, List.map_nil, ha.eval hx, ha.eval hy, hrun]
    rfl
end
end Go.Lane
