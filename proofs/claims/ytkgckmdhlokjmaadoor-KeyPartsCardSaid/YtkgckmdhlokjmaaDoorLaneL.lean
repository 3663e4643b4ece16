/-
  Function values made, rows cleared, rows cut: more of the lane.
-/
import Derived.Test.YtkgckmdhlokjmaaDoorLaneK
import Derived.OrdersHeld
namespace Go.Lane
open Go.RowKit
section
variable {P : Program} {n : Nat} {E : Slots} {w : World} {K : Slots → World → Prop} {ops : Array Oper} {rest : List Oper} {ty t : TypeId} {pos : String} {aft : Array Edge} {x : Operand}
/-- A function value with what it captures. -/
theorem TL.makeFn {d : Tmp} {f : FuncId} {cs : List Operand} {vs : List Value} (hcs : evs E cs = some vs) (hd : Nat.blt d n = true)
    (h : TL P n ops rest ((d, .func (.func f) #[] vs.toArray) :: E) w K) : TL P n ops (⟨some d, .makeFunc (.func f) #[] cs.toArray, ty, pos, aft, none⟩ :: rest) E w K :=
  TL.val hd _ (fun a ha => by
    have e := ha.evals hcs
    simp [execOp, Instr.makeFunc, e]) h
theorem zero_one {z : Value} (h : ∀ u ∈ z.cells.toList, u.oneCell' = true) (k : Nat) : ∀ u ∈ (Builtin.zeroCells z.cells k).toList, u.oneCell' = true := by
  intro u hu
  simp only [Builtin.zeroCells, Array.toList_map, List.mem_map, Array.toList_range, List.mem_range] at hu
  obtain ⟨i, hi, rfl⟩ := hu
  have hp : 0 < z.cells.size := by rcases Nat.eq_zero_or_pos z.cells.size with h0 | h0; · rw [h0] at hi; simp at hi
                                   · exact h0
  have hlt := Nat.mod_lt i hp
  rw [getElem!_pos z.cells _ hlt]
  exact h _ (Array.getElem_mem_toList _)
/-- clear(s), s not empty: the block's cells from there on are written. -/
theorem TL.clear {e : TypeId} {sz by_ m c b off : Nat} {z : Value} {cur : Array Value} {tb : TypeId} (ht : SliceT P t e sz by_ z) (hz1 : ∀ u ∈ z.cells.toList, u.oneCell' = true) (hx : ev E x = some (.slice (some ⟨b, off, none⟩) m c)) (hg : Has w b cur tb (0, 0)) (hfit : off + m * sz ≤ cur.size)
    (h : ∀ w' cs, cs.length = m * sz → Has w' b (spl cur off cs) tb (0, 0) → Ch [b] w w' → w'.heap.size = w.heap.size → TL P n ops rest E w' K) :
    TL P n ops (⟨none, .call { callee := .builtin .clear, args := #[x], argTypes := #[t] }, ty, pos, aft, none⟩ :: rest) E w K := by
  obtain ⟨i, hi, hz, hs, hb⟩ := ht.info
  have hzv : (zeroValue e).run P w = .ok z w := by simp [zeroValue, run_typeInfo hi, hz]
  rcases Nat.eq_zero_or_pos m with h0 | h0
  · subst h0
    have hrun : (Builtin.clear_ #[t] ty #[.slice (some ⟨b, off, none⟩) 0 c]).run P w = .ok (.tuple #[]) w := by
      simp [Builtin.clear_, run_underlying ht.under]
    refine TL.op (o := ⟨none, .call { callee := .builtin .clear, args := #[x], argTypes := #[t] }, ty, pos, aft, none⟩) rfl rfl (.tuple #[]) w (fun a ha => ?_) (h w [] (by simp) (by simpa [spl] using hg) (Ch.refl _ _) rfl)
    simp only [execOp, resolve, invoke, builtin, Sem.run_bind, Sem.run_pure, Result.andThen_ok, List.map_toArray, List.map_cons, List.map_nil, ha.eval hx, hrun]
  · obtain ⟨m, rfl⟩ : ∃ k, m = k + 1 := ⟨m - 1, by omega⟩
    have hlen : (Builtin.zeroCells z.cells (m + 1)).toList.length = (m + 1) * sz := by simp [Builtin.zeroCells, ht.cells]
    have hrun : (Builtin.clear_ #[t] ty #[.slice (some ⟨b, off, none⟩) (m + 1) c]).run P w = .ok (.tuple #[]) (w.setRow b (spl cur off (Builtin.zeroCells z.cells (m + 1)).toList)) := by
      have hst := run_storeCells_spl (P := P) b tb (0, 0) off (Builtin.zeroCells z.cells (m + 1)).toList cur w hg (by rw [hlen]; exact hfit) (zero_one hz1 _) (by intro i _ _ h3; simp at h3)
      simp [Builtin.clear_, run_underlying ht.under, hzv, hst]
    refine TL.op (o := ⟨none, .call { callee := .builtin .clear, args := #[x], argTypes := #[t] }, ty, pos, aft, none⟩) rfl rfl (.tuple #[]) (w.setRow b (spl cur off (Builtin.zeroCells z.cells (m + 1)).toList)) (fun a ha => ?_) (h _ _ hlen (setRow_heap w b cur _ tb _ hg) ⟨rfl, rfl, rfl, by simp [World.setRow], fun k _ hk => setRow_other w b k _ (by simpa using hk)⟩ (by simp [World.setRow]))
    simp only [execOp, resolve, invoke, builtin, Sem.run_bind, Sem.run_pure, Result.andThen_ok, List.map_toArray, List.map_cons, List.map_nil, ha.eval hx, hrun]
end
section
variable {P : Program} {n : Nat} {E : Slots} {w : World} {t : TypeId}
/-- At a function's end, its two results being a variable's row of cells and a slot. -/
theorem Ends.cell2 {fn : Func} {R : Value → World → Prop} {a b' : Tmp} {sz b off : Nat} {e : Exit} {v : Value} (cs : List Value) (he : e = .ret ∨ e = .normal) (hr : fn.results = #[.cell a t, .tmp b']) (ht : AggT P t sz) (hx : look E a = some (.pointer (some ⟨b, off, none⟩)))
    (hl : cs.length = sz) (hc : ∀ j, j < sz → w.cell? ⟨b, off + j, none⟩ = cs[j]?) (hv : look E b' = some v) (h : R (.tuple #[.agg cs.toArray, v]) w) : Ends P n fn R e E w :=
  ⟨he, _, fun ac ha => by
    have h1 := ha.get a _ hx
    have h3 := ha.get b' _ hv
    have h2 := run_loadAgg (P := P) (w := w) ht hl hc
    unfold results
    rw [hr]
    simp only [Array.mapM_eq_mapM_toList, List.mapM_cons, List.mapM_nil, Sem.run_bind, Sem.run_map, h1, h3, asAddr, Sem.run_pure, Result.andThen_ok, h2]
    rfl, h⟩
end
section
variable {P : Program} {n : Nat} {E : Slots} {w : World} {ops : Array Oper} {S : World → Prop} {fuel : Nat} {listed : Array Bool} {K : Slots → World → Prop}
theorem TH.opOf {i : Nat} {o : Oper} (hi : ops[i]? = some o) (hg : o.guard = none)
    (h : TL P n ops [o] E w (fun E' w' => S w' ∧ TH P n ops S fuel (listed.setIfInBounds i true) E' w' K)) {a : Act} (ha : Env n E a) :
    wpOp P ops (onNormal n K) i (fun a' w' => S w' ∧ wpAnyH P .any ops (onNormal n K) S fuel (listed.setIfInBounds i true) a' w') a w := by
  have h1 := h.run a ha
  unfold wpList at h1
  unfold wpOp
  simp only [hi]
  rw [if_pos (by simp [Region.wanted, hg])] at h1 ⊢
  rcases h1 with h1 | ⟨_, a', w', he, _⟩
  · left
    unfold Oper.wp at h1 ⊢
    generalize (execOp a.eval o).run P w = r at *
    have fin : ∀ a w, wpList P ops (onNormal n fun E' w' => S w' ∧ TH P n ops S fuel (listed.setIfInBounds i true) E' w' K) [] a w → S w ∧ wpAnyH P .any ops (onNormal n K) S fuel (listed.setIfInBounds i true) a w := by
      intro a w h2
      unfold wpList at h2
      obtain ⟨_, E', hE, h3, h4⟩ := h2
      exact ⟨h3, h4.run a hE⟩
    cases r with
    | ok nx w' =>
      cases nx <;> simp only [Oper.upon] at h1 ⊢ <;> try exact fin _ _ h1
      case enter f args =>
        refine Calls.mono h1 fun e w'' he => ?_
        cases e with
        | returned v => exact fin _ _ he
        | panicked ch => exact absurd he.1 (by simp)
        | outgrown => obtain ⟨a', w3, he⟩ := he; exact absurd he.1 (by simp)
      case row => exact Rows.mono h1 fun _ _ he => fin _ _ he
    | halt x w' => cases x <;> simp only [Oper.upon] at h1 ⊢ <;> first | exact absurd h1.1 (by simp) | exact h1
  · cases he
/-- Two operations that may come up: both orders. -/
theorem TH.two {i j : Nat} {o u : Oper} (hr : Region.ready .any ops listed = [i, j]) (hi : ops[i]? = some o) (hj : ops[j]? = some u) (hg : o.guard = none) (hu : u.guard = none)
    (h1 : TL P n ops [o] E w (fun E' w' => S w' ∧ TH P n ops S fuel (listed.setIfInBounds i true) E' w' K)) (h2 : TL P n ops [u] E w (fun E' w' => S w' ∧ TH P n ops S fuel (listed.setIfInBounds j true) E' w' K)) : TH P n ops S (fuel + 1) listed E w K := ⟨fun a ha => by
  refine wpAnyH_all hr (by simp) fun k hk => ?_
  have hk' : k = i ∨ k = j := by simpa using hk
  rcases hk' with rfl | rfl
  · exact TH.opOf hi hg h1 ha
  · exact TH.opOf hj hu h2 ha⟩
end
theorem take_set1 {α : Type} (L : List α) (p n : Nat) (x : α) (hp : p < n) (hn : n ≤ L.length) : (L.take p ++ [x] ++ L.drop (p + 1)).take n = (L.take n).set p x := by
  rw [← List.take_set, List.set_eq_take_append_cons_drop, if_pos (by omega), List.append_assoc]; rfl
/-- The head of an own row. -/
theorem Own.to {w : World} {base g c n sz k : Nat} {e : TypeId} {cs : List Value} (h : Own w base e sz (.slice (some ⟨g, 0, none⟩) n c) n cs) (hk : k ≤ n) : Own w base e sz (.slice (some ⟨g, 0, none⟩) k c) k (cs.take (k * sz)) := by
  rcases h.2 with ⟨h, _⟩ | ⟨g', c', cur', he, hbg, hg, h3, h4, h5, h6⟩
  · cases h
  · cases he
    have hle := Nat.mul_le_mul_right sz hk
    refine ⟨by rw [List.length_take, h.1]; omega, .inr ⟨g, c, cur', rfl, hbg, hg, by omega, h4, h5, ?_⟩⟩
    rw [← h6, List.take_take, Nat.min_eq_left hle]
/-- A row whose cells behind the head were written: the head stays. -/
theorem Own.cutSpl {w w' : World} {base g c n sz k : Nat} {e : TypeId} {cs zs : List Value} {cur : Array Value} (h : Own w base e sz (.slice (some ⟨g, 0, none⟩) n c) n cs) (hcur : Has w g cur e (0, 0)) (hk : k ≤ n)
    (hz : k * sz + zs.length ≤ cur.size) (hb : Has w' g (spl cur (k * sz) zs) e (0, 0)) : Own w' base e sz (.slice (some ⟨g, 0, none⟩) k c) k (cs.take (k * sz)) := by
  rcases h.2 with ⟨h, _⟩ | ⟨g', c', cur', he, hbg, hg, h3, h4, h5, h6⟩
  · cases h
  · cases he
    have e1 : cur = cur' := by
      have := hcur.symm.trans hg
      simpa using this
    subst e1
    have hle := Nat.mul_le_mul_right sz hk
    refine ⟨by rw [List.length_take, h.1]; omega, .inr ⟨g, c, _, rfl, hbg, hb, by omega, h4, by rw [size_spl hz]; exact h5, ?_⟩⟩
    rw [← h6, List.take_take, Nat.min_eq_left hle]
    simp only [spl]
    rw [List.append_assoc, List.take_append_of_le_length (by rw [List.length_take, Array.length_toList]; omega), List.take_take, Nat.min_self]
/-- What was made later lies elsewhere. -/
theorem Own.away {wA wB : World} {bA bB s1 s2 n1 n2 : Nat} {e1 e2 : TypeId} {v1 v2 : Value} {c1 c2 : List Value} (h1 : Own wA bA e1 s1 v1 n1 c1) (hs : wA.heap.size ≤ bB) (h2 : Own wB bB e2 s2 v2 n2 c2) : ∀ k, v2.ownBlock = some k → k ∉ blk v1 := fun k hk hm => by
  have g1 := h2.ge k hk
  have g2 := h1.lt k (by simpa [blk] using hm)
  omega
/-- One cell of an own row, stored. -/
theorem Own.setCell {w w' : World} {base g c n sz p : Nat} {e : TypeId} {cs : List Value} {cur : Array Value} {x : Value} (h : Own w base e sz (.slice (some ⟨g, 0, none⟩) n c) n cs) (hcur : Has w g cur e (0, 0))
    (hp : p < n * sz) (hb : Has w' g (spl cur p [x]) e (0, 0)) : Own w' base e sz (.slice (some ⟨g, 0, none⟩) n c) n (cs.set p x) := by
  rcases h.2 with ⟨h, _⟩ | ⟨g', c', cur', he, hbg, hg, h3, h4, h5, h6⟩
  · cases h
  · cases he
    have e1 : cur = cur' := by
      have := hcur.symm.trans hg
      simpa using this
    subst e1
    have hcs : n * sz ≤ cur.size := by rw [h5]; exact Nat.mul_le_mul_right sz h3
    refine ⟨by rw [List.length_set]; exact h.1, .inr ⟨g, c, _, rfl, hbg, hb, h3, h4, by rw [size_spl (by simp; omega)]; exact h5, ?_⟩⟩
    rw [← h6]
    simp only [spl, List.length_singleton]
    exact take_set1 _ _ _ _ hp (by simpa using hcs)
end Go.Lane
