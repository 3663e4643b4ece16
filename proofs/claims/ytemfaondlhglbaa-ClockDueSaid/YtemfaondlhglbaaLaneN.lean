/-
  The lane, part N: copy where the source is longer, append of zeros, methods called through an interface, interface values, division that cuts toward zero, overlaps.
  Generic in the program.
-/
import Derived.Test.YtemfaondlhglbaaLaneM
import Derived.Lib.AppendZerosOnto
import Derived.Lib.Overlaps
namespace Go.Lane
open Go.RowKit
theorem run_copy_min {P : Program} (w : World) (dT sT ty elem : TypeId) (g o dLen dCap : Nat) (a : Addr) (sLen sCap sz k : Nat) (cur : Array Value) (t : TypeId) (cs : List Value)
    (hu : P.underlying dT = some (.slice elem)) (hs : (P.info? elem).map (·.size) = some sz)
    (hg : Has w g cur t (0, 0)) (hk : Nat.min sLen dLen = k) (hn : cs.length = k * sz)
    (hsrc : ∀ j v, cs[j]? = some v → w.cell? (a.add j) = some v) (hfit : o + cs.length ≤ cur.size) (h1 : ∀ v ∈ cs, v.oneCell' = true) :
    (Builtin.copy_ #[dT, sT] ty #[.slice (some ⟨g, o, none⟩) dLen dCap, .slice (some a) sLen sCap]).run P w = .ok (goInt k) (w.setRow g (spl cur o cs)) := by
  have hl := run_loadCells_list (P := P) w a cs hsrc
  have hst := run_storeCells_spl (P := P) g t (0, 0) o cs cur w hg hfit h1 (by intro i _ _ h3; simp at h3)
  cases hq : P.info? elem with
  | none => simp [hq] at hs
  | some i =>
    have hi : i.size = sz := by simpa [hq] using hs
    simp [Builtin.copy_, run_underlying hu, Builtin.lenOf, Builtin.firstCells, sizeOf, typeInfo, hq, hi, hk, ← hn, hl, hst]
section
variable {P : Program} {n : Nat} {E : Slots} {w : World} {K : Slots → World → Prop} {ops : Array Oper} {rest : List Oper} {d : Option Tmp} {t u ty : TypeId} {pos : String} {aft : Array Edge} {x y : Operand}
/-- copy(x, y) of 'k' elements, as many as the shorter one has; 'y' is not empty. -/
theorem TL.copyMin {e g off dl dc sl sz k : Nat} {sv : Value} {cs : List Value} {cur : Array Value} {tb : TypeId} (hu : P.underlying t = some (.slice e)) (hs : (P.info? e).map (·.size) = some sz) (hx : ev E x = some (.slice (some ⟨g, off, none⟩) dl dc)) (hy : ev E y = some sv)
    (hd : fits n d = true) (hsv : Rd w sv sz sl cs) (hpos : 0 < sl) (hk1 : k ≤ sl) (hk2 : k ≤ dl) (hk : k = sl ∨ k = dl) (hg : Has w g cur tb (0, 0)) (hfit : off + k * sz ≤ cur.size) (h1 : ∀ v ∈ cs.take (k * sz), v.oneCell' = true)
    (h : ∀ w', Has w' g (spl cur off (cs.take (k * sz))) tb (0, 0) → Ch [g] w w' → w'.heap.size = w.heap.size → TL P n ops rest (upd E d (.int .i64 (k : Int))) w' K) :
    TL P n ops (⟨d, .call { callee := .builtin .copy, args := #[x, y], argTypes := #[t, u] }, ty, pos, aft, none⟩ :: rest) E w K := by
  have hl := hsv.len
  have hle := Nat.mul_le_mul_right sz hk1
  have hmin : Nat.min sl dl = k := by show min sl dl = k; omega
  have hlt : (cs.take (k * sz)).length = k * sz := by rw [List.length_take]; omega
  rcases hsv with ⟨⟨ad, rfl⟩, rfl, rfl⟩ | ⟨b, o, c, cur', t', fr, rfl, hh, g1, g2, g3, hcs⟩
  · omega
  · have hrun := run_copy_min (P := P) w t u ty e g off dl dc ⟨b, o, none⟩ sl c sz k cur tb (cs.take (k * sz)) hu hs hg hmin hlt (fun j v hj => by
      rw [Addr.add_lit, hh.cell]
      rw [List.getElem?_take] at hj
      split at hj
      · rw [hcs, List.getElem?_take] at hj
        split at hj
        · simpa using hj
        · cases hj
      · cases hj) (by rw [hlt]; exact hfit) h1
    refine TL.op rfl hd (.int .i64 (k : Int)) (w.setRow g (spl cur off (cs.take (k * sz)))) (fun a ha => ?_) (h _ (setRow_heap w g cur _ tb _ hg) ⟨rfl, rfl, rfl, by simp [World.setRow], fun k _ hk => setRow_other w g k _ (by simpa using hk)⟩ (by simp [World.setRow]))
    simp only [execOp, resolve, invoke, builtin, Sem.run_bind, Sem.run_pure, Result.andThen_ok, List.map_toArray, List.map_cons, List.map_nil, ha.eval hx, ha.eval hy, hrun]
    rfl
/-- append(x, make([]T, k)...) where there is no room: a new row. -/
theorem TL.appendZeros {e g c m k sz by_ : Nat} {z : Value} {kn kq : IntKind} {cs : List Value} {kk : Int} (ht : SliceT P t e sz by_ z) (hu : P.underlying u = some (.int kn)) (hx : ev E x = some (.slice (some ⟨g, 0, none⟩) m c)) (hy : ev E y = some (.int kq kk)) (hkk : kk = (k : Int))
    (hd : fits n d = true) (hsv : Rd w (.slice (some ⟨g, 0, none⟩) m c) sz m cs) (h0 : 0 < k) (hroom : c < m + k) (hmax : m + k ≤ maxLen) (hbytes : (m + k) * by_ ≤ 140737488355328)
    (h : ∀ c' cur w', Has w' w.heap.size cur e (0, 0) → cur.size = c' * sz → m + k ≤ c' → c' ≤ maxLen → cur.toList.take (m * sz) = cs → Ch [] w w' → w'.heap.size = w.heap.size + 1 → TL P n ops rest (upd E d (.slice (some ⟨w.heap.size, 0, none⟩) (m + k) c')) w' K) :
    TL P n ops (⟨d, .call { callee := .builtin .append, args := #[x, y], argTypes := #[t, u] }, ty, pos, aft, none⟩ :: rest) E w K := by
  obtain ⟨i, hi, hz, hsz, hby⟩ := ht.info
  have hl := hsv.len
  have hzc := ht.cells
  have hpos := ht.pos
  have hmm : maxLen = 9223372036854775807 := rfl
  have hold : (Builtin.firstCells i.size m (.slice (some ⟨g, 0, none⟩) m c)).run P w.drew = .ok cs.toArray w.drew := by
    rw [hsz]
    rcases hsv with ⟨⟨ad, had⟩, rfl, rfl⟩ | ⟨b, o, c', cur', t', fr, e', hh, g1, g2, g3, hcs⟩
    · cases had; simp [Builtin.firstCells, loadCells, loadCellsFrom]
    · cases e'
      refine run_firstCells_some (P := P) w.drew sz m _ m c cs hl (fun j v hj => ?_)
      rw [Addr.add_lit, World.cell?_drew, hh.cell]
      rw [hcs, List.getElem?_take] at hj
      split at hj
      · simpa using hj
      · cases hj
  have hgs := growslice_fits (need := m + k) (old := c) (bytes := by_) (by omega) hbytes
  have h48 : k * i.bytes ≤ 281474976710656 := by
    rw [hby]
    have := Nat.mul_le_mul_right by_ (show k ≤ m + k by omega)
    omega
  have hrun := Lib.run_append_grow_zeros (P := P) w t u ty e i z kq kn ht.under hu hi hz (some ⟨g, 0, none⟩) m c cs hold k h0 (by omega) hroom (by omega) h48 (by rw [hby]; omega)
  have hge := grownCap_ge w (m + k) c e
  have hcm : grownCap w (m + k) c e ≤ maxLen := grownCap_le_maxLen w (m + k) c e hmax
  have hs1 : (cs.toArray ++ Builtin.zeroCells z.cells k ++ Builtin.zeroCells z.cells (grownCap w (m + k) c e - (m + k))).size = grownCap w (m + k) c e * sz := by
    simp only [Array.size_append, List.size_toArray, size_zeroCells, hzc, hl, ← Nat.add_mul]
    congr 1
    omega
  refine TL.op rfl hd _ (w.drew.alloc (.cells (cs.toArray ++ Builtin.zeroCells z.cells k ++ Builtin.zeroCells z.cells (grownCap w (m + k) c e - (m + k))) e)) (fun a ha => ?_)
    (h (grownCap w (m + k) c e) _ _ (heap_alloc_new w.drew _) hs1 hge hcm ?_ ((Ch.drew [] w).trans0 (Ch.alloc [] w.drew _)) (by simp))
  · simp only [execOp, resolve, invoke, builtin, Sem.run_bind, Sem.run_pure, Result.andThen_ok, List.map_toArray, List.map_cons, List.map_nil, ha.eval hx, ha.eval hy, hkk, hrun]
  · simp only [Array.toList_append, List.append_assoc]
    rw [← hl]
    exact List.take_left
end
section
variable {P : Program} {n : Nat} {E : Slots} {w : World} {K : Slots → World → Prop} {ops : Array Oper} {rest : List Oper} {d : Tmp} {t ty : TypeId} {pos : String} {aft : Array Edge} {x y : Operand}
theorem TL.quoT_i64 {yt : TypeId} {a b : Int} (hx : ev E x = some (.int .i64 a)) (hy : ev E y = some (.int .i64 b)) (ha : -9223372036854775807 ≤ a) (ha' : a ≤ 9223372036854775807) (hb : 0 < b) (hd : Nat.blt d n = true)
    (h : TL P n ops rest ((d, .int .i64 (a.tdiv b)) :: E) w K) : TL P n ops (⟨some d, .binOp .quo t x y yt, ty, pos, aft, none⟩ :: rest) E w K := by
  refine TL.bin hx hy (guard_int _ _ _ _ _ _ _ _ _) ?_ hd h
  have h1 : (a.tdiv b).natAbs ≤ a.natAbs := by rw [Int.natAbs_tdiv]; exact Nat.div_le_self _ _
  simp [binOp, Op.intDiv, show ¬ b = 0 by omega, wrap_i64 (show -9223372036854775808 ≤ a.tdiv b by omega) (show a.tdiv b ≤ 9223372036854775807 by omega)]
/-- A value put into an interface. -/
theorem TL.mkIface {v : Value} {dt : TypeDesc} (ht : P.underlying t = some dt) (hi : (match dt with | .interface _ => true | _ => false) = false) (hx : ev E x = some v) (hd : Nat.blt d n = true)
    (h : TL P n ops rest ((d, .iface t v) :: E) w K) : TL P n ops (⟨some d, .makeInterface t x, ty, pos, aft, none⟩ :: rest) E w K :=
  TL.val hd _ (fun a ha => by
    cases dt <;> first | (simp [execOp, ha.eval hx, Instr.makeInterface, run_underlying ht]; done) | simp at hi) h
/-- x.(T) of an interface that holds a T. -/
theorem TL.assert {v : Value} {xt : TypeId} {dt : TypeDesc} (ht : P.underlying t = some dt) (hi : (match dt with | .interface _ => true | _ => false) = false) (hx : ev E x = some (.iface t v)) (hd : Nat.blt d n = true)
    (h : TL P n ops rest ((d, v) :: E) w K) : TL P n ops (⟨some d, .typeAssert x xt t false, ty, pos, aft, none⟩ :: rest) E w K :=
  TL.val hd _ (fun a ha => by
    cases dt <;> first | (simp [execOp, ha.eval hx, Instr.typeAssert, run_underlying ht]; done) | simp at hi) h

/-- Type 't' has the method 'name': function 'f', asked of the pointer itself or of what lies there. -/
def MethT (P : Program) (t : TypeId) (name : String) (f : FuncId) (ptr : Bool) : Prop :=
  ((P.info? t).bind fun i => i.methods.find? (·.name == name)).map (fun m => (m.path.size, m.func)) = some (0, some (f, ptr))
theorem run_wrapChk (ts : Array TypeId) (ty : TypeId) (a : Addr) (x y : ByteArray) (w : World) : (Builtin.ssaWrapNilChk_ ts ty #[.pointer (some a), .string x, .string y]).run P w = .ok (.pointer (some a)) w := rfl
theorem run_method {t el : TypeId} {name : String} {f : FuncId} {ptr : Bool} {a : Addr} (ht : P.underlying t = some (.pointer el)) (hm : MethT P t name f ptr) (v : Value) (hv : if ptr then v = .pointer (some a) else Plain P el ∧ w.cell? a = some v) (k : Nat) :
    (method (k + 1) t (.pointer (some a)) name).run P w = .ok (f, v) w := by
  unfold MethT at hm
  obtain ⟨m, h1, h2⟩ := Option.map_eq_some_iff.1 hm
  obtain ⟨i, hi, hf⟩ := Option.bind_eq_some_iff.1 h1
  simp only [Prod.mk.injEq] at h2
  have hp : m.path = #[] := Array.eq_empty_of_size_eq_zero h2.1
  cases ptr with
  | true =>
    simp only [if_true] at hv
    subst hv
    simp [method, run_typeInfo hi, hf, hp, follow, h2.2, receiverAt, run_underlying ht, Place.get]
  | false =>
    simp only [Bool.false_eq_true, if_false] at hv
    simp [method, run_typeInfo hi, hf, hp, follow, h2.2, receiverAt, run_underlying ht, Place.get, strVal, run_wrapChk, asAddr, loadVar, run_isAgg_plain hv.1, hv.2]
theorem TL.invoke {dd : Option Tmp} {f : FuncId} {name : String} {tr el : TypeId} {ptr : Bool} {r : Operand} {a : Addr} {v : Value} {xs : List Operand} {ts : Array TypeId} {vs : List Value} {R : Value → World → Prop} (hf : Callable P f)
    (ht : P.underlying tr = some (.pointer el)) (hm : MethT P tr name f ptr) (hr : ev E r = some (.iface tr (.pointer (some a)))) (hv : if ptr then v = .pointer (some a) else Plain P el ∧ w.cell? a = some v) (hxs : evs E xs = some vs) (hd : fits n dd = true) (hc : Rets P f (v :: vs).toArray w R)
    (h : ∀ v' w', R v' w' → TL P n ops rest (upd E dd v') w' K) : TL P n ops (⟨dd, .call { callee := .invoke r name, args := xs.toArray, argTypes := ts }, ty, pos, aft, none⟩ :: rest) E w K :=
  TL.enter rfl hd (fun a' ha => by
    have e := ha.evals hxs
    have hdp : 0 < Made.depth := by decide
    obtain ⟨k, hk⟩ : ∃ k, P.types.size + Made.depth = k + 1 := ⟨P.types.size + Made.depth - 1, by omega⟩
    have e1 : ((#[Value.iface tr (.pointer (some a))] ++ vs.toArray : Array Value).extract 1 (#[Value.iface tr (.pointer (some a))] ++ vs.toArray : Array Value).size) = vs.toArray := by
      apply Array.toList_inj.1
      simp
    have e2 : (#[v] ++ vs.toArray : Array Value) = (v :: vs).toArray := by apply Array.toList_inj.1; simp
    have e3 : (#[Value.iface tr (.pointer (some a))] ++ vs.toArray : Array Value)[0]? = some (Value.iface tr (.pointer (some a))) := by simp
    have e4 : Array.map a'.eval xs.toArray = vs.toArray := by simp [e]
    simp only [execOp, resolve, ha.eval hr, e4, Go.invoke, Sem.run_bind, Sem.run_pure, Result.andThen_ok, e3, callMethod, e1, run_program, hk, run_method ht hm v hv k, e2, run_callFunc hf]) hc h
theorem TL.invokeV {dd : Option Tmp} {f : FuncId} {name : String} {tr el : TypeId} {r : Operand} {a : Addr} {v : Value} {xs : List Operand} {ts : Array TypeId} {vs : List Value} {R : Value → World → Prop} (hf : Callable P f)
    (ht : P.underlying tr = some (.pointer el)) (hm : MethT P tr name f false) (hr : ev E r = some (.iface tr (.pointer (some a)))) (hp : Plain P el) (hv : w.cell? a = some v) (hxs : evs E xs = some vs) (hd : fits n dd = true) (hc : Rets P f (v :: vs).toArray w R)
    (h : ∀ v' w', R v' w' → TL P n ops rest (upd E dd v') w' K) : TL P n ops (⟨dd, .call { callee := .invoke r name, args := xs.toArray, argTypes := ts }, ty, pos, aft, none⟩ :: rest) E w K :=
  TL.invoke (ptr := false) hf ht hm hr (by rw [if_neg (by decide)]; exact ⟨hp, hv⟩) hxs hd hc h
theorem TL.invokeP {dd : Option Tmp} {f : FuncId} {name : String} {tr el : TypeId} {r : Operand} {a : Addr} {xs : List Operand} {ts : Array TypeId} {vs : List Value} {R : Value → World → Prop} (hf : Callable P f)
    (ht : P.underlying tr = some (.pointer el)) (hm : MethT P tr name f true) (hr : ev E r = some (.iface tr (.pointer (some a)))) (hxs : evs E xs = some vs) (hd : fits n dd = true) (hc : Rets P f (.pointer (some a) :: vs).toArray w R)
    (h : ∀ v' w', R v' w' → TL P n ops rest (upd E dd v') w' K) : TL P n ops (⟨dd, .call { callee := .invoke r name, args := xs.toArray, argTypes := ts }, ty, pos, aft, none⟩ :: rest) E w K :=
  TL.invoke (ptr := true) hf ht hm hr (by rw [if_pos rfl]) hxs hd hc h
/-- x.(T), where the order is open. -/
theorem TH.takeA {S : World → Prop} {fuel : Nat} {listed : Array Bool} {i : Nat} {v : Value} {xt : TypeId} {dt : TypeDesc} (hi : ops[i]? = some ⟨some d, .typeAssert x xt t false, ty, pos, aft, none⟩) (ht : P.underlying t = some dt) (hif : (match dt with | .interface _ => true | _ => false) = false) (hx : ev E x = some (.iface t v)) (hdn : Nat.blt d n = true)
    (hs : Region.noSelect ops = true) (hf : Region.free .any ops listed i = true) (hr : (Region.ready .any ops listed).contains i = true) (hS : S w)
    (h : TH P n ops S fuel (listed.setIfInBounds i true) ((d, v) :: E) w K) : TH P n ops S (fuel + 1) listed E w K := ⟨fun ac ha =>
  wpAnyH_take (v := v) hi hs hf hr (fun _ _ _ h => onNormal_panic h) (.inl ⟨by simp [Region.wanted], fun w' _ => by
    cases dt <;> first | (simp [execOp, ha.eval hx, Instr.typeAssert, run_underlying ht]; done) | simp at hif⟩) hS (h.run _ (ha.put (d := some d) (by simpa [fits] using hdn) _))⟩
variable {KQ : Slots → Prop}
theorem TS.val {o : Oper} (v : Value) (hg : o.guard = none) (hd : o.dst = some d) (hdn : Nat.blt d n = true) (hrun : ∀ a, Env n E a → (execOp a.eval o).run P w = .ok (.value v) w)
    (h : TS P n ops w rest ((d, v) :: E) KQ) : TS P n ops w (o :: rest) E KQ := ⟨fun a ha => by
  refine wpStill_step fun K hK => ?_
  rw [if_pos (by simp [Region.wanted, hg])]
  have := h.run _ (ha.put (d := some d) (by simpa [fits] using hdn) v)
  unfold Oper.still
  rw [hrun a ha, Oper.stillUpon_value]
  exact hK _ (by rw [hd]; exact this)⟩
theorem TS.nilCheck {a : Addr} (hx : ev E x = some (.pointer (some a))) (hd : Nat.blt d n = true)
    (h : TS P n ops w rest ((d, .pointer (some a)) :: E) KQ) : TS P n ops w (⟨some d, .nilCheck x, ty, pos, aft, none⟩ :: rest) E KQ :=
  TS.val _ rfl rfl hd (fun a' ha => by simp [execOp, ha.eval hx]) h
theorem TS.assert {v : Value} {xt : TypeId} {dt : TypeDesc} (ht : P.underlying t = some dt) (hi : (match dt with | .interface _ => true | _ => false) = false) (hx : ev E x = some (.iface t v)) (hd : Nat.blt d n = true)
    (h : TS P n ops w rest ((d, v) :: E) KQ) : TS P n ops w (⟨some d, .typeAssert x xt t false, ty, pos, aft, none⟩ :: rest) E KQ :=
  TS.val v rfl rfl hd (fun a ha => by
    cases dt <;> first | (simp [execOp, ha.eval hx, Instr.typeAssert, run_underlying ht]; done) | simp at hi) h
/-- At a function's end, its three results being a variable's row of cells and two slots. -/
theorem Ends.cell3 {fn : Func} {R : Value → World → Prop} {a b' c' : Tmp} {sz b off : Nat} {e : Exit} {v u : Value} (cs : List Value) (he : e = .ret ∨ e = .normal) (hr : fn.results = #[.cell a t, .tmp b', .tmp c']) (ht : AggT P t sz) (hx : look E a = some (.pointer (some ⟨b, off, none⟩)))
    (hl : cs.length = sz) (hc : ∀ j, j < sz → w.cell? ⟨b, off + j, none⟩ = cs[j]?) (hv : look E b' = some v) (hu : look E c' = some u) (h : R (.tuple #[.agg cs.toArray, v, u]) w) : Ends P n fn R e E w :=
  ⟨he, _, fun ac ha => by
    have h1 := ha.get a _ hx
    have h3 := ha.get b' _ hv
    have h4 := ha.get c' _ hu
    have h2 := run_loadAgg (P := P) (w := w) ht hl hc
    unfold results
    rw [hr]
    simp only [Array.mapM_eq_mapM_toList, List.mapM_cons, List.mapM_nil, Sem.run_bind, Sem.run_map, h1, h3, h4, asAddr, Sem.run_pure, Result.andThen_ok, h2]
    rfl, h⟩
theorem par_eq (j : Nat) : ((j : Int) - 1).tdiv 2 = (((j - 1) / 2 : Nat) : Int) := by
  rcases Nat.eq_zero_or_pos j with h | h
  · subst h; decide
  · rw [Int.tdiv_eq_ediv_of_nonneg (by omega)]; omega
end
section
variable {P : Program} {w : World}
/-- slices.overlaps of two rows of which each lies in a block of its own. -/
theorem run_overlaps {t tr e : TypeId} {sz : Nat} (ht : P.underlying t = some (.slice e)) (hs : (P.info? e).map (·.size) = some sz) {a b oa ob la ca lb cb : Nat} (hne : a ≠ b) {ca' cb' : Array Value} {ta tb : TypeId} {fr : Nat × Nat} (ha : Has w a ca' ta (0, 0)) (hb : Has w b cb' tb fr) (hk : 0 < cb'.size) :
    (Extern.SlicesOverlaps.overlaps #[t, t] #[tr] #[.slice (some ⟨a, oa, none⟩) la ca, .slice (some ⟨b, ob, none⟩) lb cb]).run P w = .ok (.bool false) w := by
  have hsa : w.shape? a = some (ta, ca'.size) := by unfold World.shape?; rw [show w.heap[a]? = some (.cells ca' ta (0, 0)) from ha]
  have hsb : w.shape? b = some (tb, cb'.size) := by unfold World.shape?; rw [show w.heap[b]? = some (.cells cb' tb fr) from hb]
  exact Lib.run_overlaps_apart w t tr e ht sz (fun w => run_sizeOf' hs w) ⟨a, oa, none⟩ ⟨b, ob, none⟩ la ca lb cb hne ta tb _ _ hsa hsb (by omega) (ha.live _ rfl) (ha.live _ rfl)
end
theorem adv_some {b o c i sz : Nat} (h : c ≠ i) : adv (some ⟨b, o, none⟩) c i sz = some ⟨b, o + i * sz, none⟩ := by
  rw [adv, if_neg h]; simp [Addr.add_lit]
/-- A row put together: something between the beginning and the rest, where the rest was moved first. -/
theorem spl_between {cur : Array Value} {A B C : List Value} (h : cur.toList.take (A.length + B.length) = A ++ B) (hs : A.length + C.length + B.length ≤ cur.size) :
    (spl (spl cur (A.length + C.length) B) A.length C).size = cur.size ∧ (spl (spl cur (A.length + C.length) B) A.length C).toList.take (A.length + C.length + B.length) = A ++ C ++ B := by
  have s1 : (spl cur (A.length + C.length) B).size = cur.size := size_spl (by omega)
  have s2 : (spl (spl cur (A.length + C.length) B) A.length C).size = cur.size := by rw [size_spl (by omega)]; exact s1
  refine ⟨s2, ?_⟩
  have hA : ∀ i, i < A.length → cur[i]? = A[i]? := fun i hi => by
    have : (cur.toList.take (A.length + B.length))[i]? = (A ++ B)[i]? := by rw [h]
    rw [List.getElem?_take, if_pos (by omega), List.getElem?_append_left hi] at this
    simpa using this
  apply List.ext_getElem?
  intro i
  rw [List.getElem?_take]
  split
  · rename_i hi
    rw [Array.getElem?_toList, get_spl (by omega)]
    split
    · rename_i h1
      rw [get_spl (by omega), if_pos (by omega), hA i h1, List.getElem?_append_left (by simp; omega), List.getElem?_append_left h1]
    · split
      · rename_i h1 h2
        rw [List.getElem?_append_left (by simp; omega), List.getElem?_append_right (by omega)]
      · rename_i h1 h2
        rw [get_spl (by omega), if_neg (by omega), if_pos (by omega), List.getElem?_append_right (by simp; omega)]
        simp
  · rw [List.getElem?_eq_none (by simp; omega)]
theorem spl_behind {cur : Array Value} {A B C : List Value} (h : cur.toList.take A.length = A) (hs : A.length + C.length + B.length ≤ cur.size) :
    (spl (spl cur A.length C) (A.length + C.length) B).size = cur.size ∧ (spl (spl cur A.length C) (A.length + C.length) B).toList.take (A.length + C.length + B.length) = A ++ C ++ B := by
  have s1 : (spl cur A.length C).size = cur.size := size_spl (by omega)
  have s2 : (spl (spl cur A.length C) (A.length + C.length) B).size = cur.size := by rw [size_spl (by omega)]; exact s1
  refine ⟨s2, ?_⟩
  have hA : ∀ i, i < A.length → cur[i]? = A[i]? := fun i hi => by
    have : (cur.toList.take A.length)[i]? = A[i]? := by rw [h]
    rw [List.getElem?_take, if_pos hi] at this
    simpa using this
  apply List.ext_getElem?
  intro i
  rw [List.getElem?_take]
  split
  · rename_i hi
    rw [Array.getElem?_toList, get_spl (by omega)]
    split
    · rename_i h0
      rw [get_spl (by omega)]
      split
      · rename_i h1
        rw [hA i h1, List.getElem?_append_left (by simp; omega), List.getElem?_append_left h1]
      · rename_i h1
        rw [List.getElem?_append_left (by simp; omega), List.getElem?_append_right (by omega)]
    · rename_i h0
      rw [List.getElem?_append_right (by simp; omega)]
      simp
  · rw [List.getElem?_eq_none (by simp; omega)]
end Go.Lane
