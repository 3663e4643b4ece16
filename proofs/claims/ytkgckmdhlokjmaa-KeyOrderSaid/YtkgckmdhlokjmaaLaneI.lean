/-
  The lane, part I: structs compared, slices of structs, and their reading out of a row.
  Generic in the program.
-/
import Derived.Test.YtkgckmdhlokjmaaLaneH
import Derived.Deep.Slices
import Derived.Deep.Fields
import Derived.ChangeSame
import Derived.Laws.StructEq
namespace Go.Lane
open Go.RowKit (Below)
section
variable {P : Program} {n : Nat} {E : Slots} {w : World} {K : Slots → World → Prop} {ops : Array Oper} {rest : List Oper} {d : Tmp} {t ty : TypeId} {pos : String} {aft : Array Edge} {x y : Operand}

theorem TL.eqlAgg {yt : TypeId} {xs ys : Array Value} {p : Prop} [Decidable p] (hm : P.eqGuardType P.depth t = false) (hr : (Op.equalIn 10000 t (.agg xs) (.agg ys)).run P w = .ok (decide p) w) (hx : ev E x = some (.agg xs)) (hy : ev E y = some (.agg ys)) (hd : Nat.blt d n = true)
    (h : TL P n ops rest ((d, .bool (decide p)) :: E) w K) : TL P n ops (⟨some d, .binOp .eql t x y yt, ty, pos, aft, none⟩ :: rest) E w K :=
  TL.bin hx hy (run_eqGuard_agg w _ _ _ _ _ _ hm) (by rw [run_eql_struct, hr]; rfl) hd h
theorem TL.neqAgg {yt : TypeId} {xs ys : Array Value} {p : Prop} [Decidable p] (hm : P.eqGuardType P.depth t = false) (hr : (Op.equalIn 10000 t (.agg xs) (.agg ys)).run P w = .ok (decide p) w) (hx : ev E x = some (.agg xs)) (hy : ev E y = some (.agg ys)) (hd : Nat.blt d n = true)
    (h : TL P n ops rest ((d, .bool (decide (¬ p))) :: E) w K) : TL P n ops (⟨some d, .binOp .neq t x y yt, ty, pos, aft, none⟩ :: rest) E w K :=
  TL.bin hx hy (run_eqGuard_agg w _ _ _ _ _ _ hm) (by rw [run_neq_struct, hr]; simp) hd h

/-- At a function's end, its one result being a variable's row of cells. -/
theorem Ends.cell {fn : Func} {R : Value → World → Prop} {a : Tmp} {sz b off : Nat} {e : Exit} (cs : List Value) (he : e = .ret ∨ e = .normal) (hr : fn.results = #[.cell a t]) (ht : AggT P t sz) (hx : look E a = some (.pointer (some ⟨b, off, none⟩)))
    (hl : cs.length = sz) (hc : ∀ j, j < sz → w.cell? ⟨b, off + j, none⟩ = cs[j]?) (h : R (.agg cs.toArray) w) : Ends P n fn R e E w :=
  ⟨he, _, fun ac ha => by
    have h1 := ha.get a _ hx
    have h2 := run_loadAgg (P := P) (w := w) ht hl hc
    unfold results
    rw [hr]
    simp only [Array.mapM_eq_mapM_toList, List.mapM_cons, List.mapM_nil, Sem.run_bind, Sem.run_map, h1, asAddr, Sem.run_pure, Result.andThen_ok, h2]
    rfl, h⟩
/-- An array written out, every element given. -/
theorem TL.buildArr {e : TypeId} {len sz : Nat} {z : Array Value} {parts : Array (Nat × Operand)} (xs : List Operand) {vs : List Value} (ht : P.underlying t = some (.array len e)) (hs : (P.info? e).map (·.size) = some sz) (hz : ZeroT P t (.agg z)) (hzs : z.size = vs.length * sz)
    (hp : parts = (enumFrom 0 xs).toArray) (hxs : evs E xs = some vs) (hv : ∀ v ∈ vs, v.cells.size = sz) (hd : Nat.blt d n = true)
    (h : TL P n ops rest ((d, .agg (flat vs).toArray) :: E) w K) : TL P n ops (⟨some d, .build t parts, ty, pos, aft, none⟩ :: rest) E w K :=
  TL.val hd _ (fun a ha => by
    have e1 : (parts.map fun p => (p.1, a.eval p.2)).toList = enumVals 0 vs := by
      rw [hp, ← ha.evals hxs, ← map_enum]; simp
    have e2 : Instr.fill (fun i => some (i * sz, sz)) z (enumVals 0 vs) = some (flat vs).toArray := by
      rw [fill_all sz vs 0 _ hv (by simpa using hzs)]; simp [flat]
    have e3 : (Value.agg z).cells = z := rfl
    rw [Array.toList_map] at e1
    simp [execOp, Instr.build, run_zeroValue hz, e3, run_underlying ht, run_sizeOf' hs, e1, e2]) h

/-- One field of two structs compared. -/
theorem eqFields_cons {dep : Nat} {xs ys : Array Value} {f : Field} {fs : List Field} {a b : Value} {r : Bool} (hn : f.name ≠ "_") (hp : Plain P f.type) (ha : xs[f.offset]? = some a) (hb : ys[f.offset]? = some b) (he : (Op.equalIn dep f.type a b).run P w = .ok r w) :
    (Op.eqFields dep xs ys (f :: fs)).run P w = if r = true then (Op.eqFields dep xs ys fs).run P w else .ok false w := by
  have h1 : (part f.type xs f.offset).run P w = .ok a w := by simp [part, run_isAgg_plain hp, ha]
  have h2 : (part f.type ys f.offset).run P w = .ok b w := by simp [part, run_isAgg_plain hp, hb]
  simp only [Op.eqFields, if_pos hn, Sem.run_bind, h1, h2, he, Result.andThen_ok]
  cases r <;> simp

/-! ## Slices of structs: the elements as a list of their own -/
theorem rows_len {α : Type} {cl : α → List Value} {sz : Nat} (hcl : ∀ x, (cl x).length = sz) (l : List α) : (l.flatMap cl).length = l.length * sz := by
  induction l with
  | nil => simp
  | cons x r ih => rw [List.flatMap_cons, List.length_append, hcl, ih, List.length_cons, Nat.succ_mul, Nat.add_comm]
theorem rows_get {α : Type} {cl : α → List Value} {sz : Nat} (hcl : ∀ x, (cl x).length = sz) : ∀ (l : List α) (i j : Nat) (hi : i < l.length), j < sz → (l.flatMap cl)[i * sz + j]? = (cl l[i])[j]?
  | x :: r, 0, j, _, hj => by
    rw [List.flatMap_cons, Nat.zero_mul, Nat.zero_add, List.getElem?_append_left (by rw [hcl]; exact hj)]; rfl
  | x :: r, i + 1, j, hi, hj => by
    have hi' : i < r.length := by simpa using hi
    rw [List.flatMap_cons, List.getElem?_append_right (by rw [hcl, Nat.succ_mul]; omega), hcl, show (i + 1) * sz + j - sz = i * sz + j by rw [Nat.succ_mul]; omega, rows_get hcl r i j hi' hj]
    rfl
theorem rows_take {α : Type} {cl : α → List Value} {sz : Nat} (hcl : ∀ x, (cl x).length = sz) : ∀ (l : List α) (k : Nat), (l.flatMap cl).take (k * sz) = (l.take k).flatMap cl
  | [], k => by simp
  | x :: r, 0 => by simp
  | x :: r, k + 1 => by
    rw [List.flatMap_cons, List.take_succ_cons, List.flatMap_cons, Nat.succ_mul, Nat.add_comm, List.take_append, hcl, List.take_of_length_le (by rw [hcl]; omega), show sz + k * sz - sz = k * sz by omega, rows_take hcl r k]
theorem rows_drop {α : Type} {cl : α → List Value} {sz : Nat} (hcl : ∀ x, (cl x).length = sz) : ∀ (l : List α) (k : Nat), (l.flatMap cl).drop (k * sz) = (l.drop k).flatMap cl
  | [], k => by simp
  | x :: r, 0 => by simp
  | x :: r, k + 1 => by
    rw [List.flatMap_cons, List.drop_succ_cons, Nat.succ_mul, Nat.add_comm, List.drop_append, hcl, List.drop_of_length_le (by rw [hcl]; omega), List.nil_append, show sz + k * sz - sz = k * sz by omega, rows_drop hcl r k]

/-- An element of a slice of structs: its cells. -/
theorem Rd.elt {α : Type} {cl : α → List Value} {sz : Nat} (hcl : ∀ x, (cl x).length = sz) (hpos : 0 < sz) {a : Option Addr} {c : Nat} {l : List α} (h : Rd w (.slice a l.length c) sz l.length (l.flatMap cl)) {i : Nat} (hi : i < l.length) :
    ∃ b off, a = some ⟨b, off, none⟩ ∧ ∀ j, j < sz → w.cell? ⟨b, off + i * sz + j, none⟩ = (cl l[i])[j]? := by
  obtain ⟨b, off, h1, _⟩ := h.at hi hpos
  refine ⟨b, off, h1, fun j hj => ?_⟩
  obtain ⟨b', off', h2, h3⟩ := h.at hi hj
  rw [h1] at h2; cases h2
  rw [h3, rows_get hcl l i j hi hj]
end

section
open Go.ChangeShapes Go.WideShapes Go.RowKit Go.Deep
variable {H : Type} {enc : TypeId × Value → H} {P : Program} {w : World} {base : Nat} {sp : Nat → Bool} {held : Bool}

theorem trod_intv {t : TypeId} {k : IntKind} {m : Nat} {v : Value} {y : DataW H × List MemPlace} (ht : P.underlying t = some (.int k)) (h : DataW.trod enc P w base sp held m t [v] = some y) : ∃ a, v = .int k a ∧ (Lit.int k a).wf = true := by
  cases m with
  | zero => simp [DataW.trod] at h
  | succ m =>
    unfold DataW.trod at h
    rw [ht] at h
    cases v <;> simp at h
    obtain ⟨⟨rfl, h1⟩, _⟩ := h
    exact ⟨_, rfl, h1⟩
theorem trod_strv {t : TypeId} {m : Nat} {v : Value} {y : DataW H × List MemPlace} (ht : P.underlying t = some .string) (h : DataW.trod enc P w base sp held m t [v] = some y) : ∃ s, v = .string s := by
  cases m with
  | zero => simp [DataW.trod] at h
  | succ m =>
    unfold DataW.trod at h
    rw [ht] at h
    cases v <;> simp at h
    exact ⟨_, rfl⟩
theorem trod_boolv {t : TypeId} {m : Nat} {v : Value} {y : DataW H × List MemPlace} (ht : P.underlying t = some .bool) (h : DataW.trod enc P w base sp held m t [v] = some y) : ∃ b, v = .bool b := by
  cases m with
  | zero => simp [DataW.trod] at h
  | succ m =>
    unfold DataW.trod at h
    rw [ht] at h
    cases v <;> simp at h
    exact ⟨_, rfl⟩

/-- A slice of structs that came in is read: its elements are a list. -/
theorem slice_of {α : Type} (cl : α → List Value) {sz : Nat} {t e : TypeId} {v : Value} {d : DataW H} {ps : List MemPlace} (ht : P.underlying t = some (.slice e)) (hC : P.cellsOf e = sz) (hpos : 0 < sz) (hcl : ∀ x, (cl x).length = sz)
    (hel : ∀ (m : Nat) (cs : List Value) (y : DataW H × List MemPlace), DataW.trod enc P w 0 (fun _ => true) held m e cs = some y → ∃ x : α, cs = cl x)
    {r : Reach} {b0 : Nat} (hval : Value.okWide P w r b0 t v) (hd : DataW.Trod enc P w 0 (fun _ => true) held t v d ps) : ∃ l : List α, Rd w v sz l.length (l.flatMap cl) := by
  obtain ⟨ao, len, cap, rfl⟩ := okWide_slice ht hval
  obtain ⟨fuel, hf⟩ := hd
  rcases open_slice ht hf with ⟨hcs, _⟩ | ⟨a, len', cap', m, n, D, Pl, hcs, _, hl, hm, hmm, _, hi⟩
  · simp [Value.cells] at hcs
    obtain ⟨rfl, rfl, rfl⟩ := hcs
    exact ⟨[], Rd.nil w sz⟩
  · simp [Value.cells] at hcs
    obtain ⟨rfl, rfl, rfl⟩ := hcs
    simp only [if_true] at hmm
    subst hmm
    have key : ∀ k, k ≤ m → ∃ l : List α, l.length = k ∧ ∀ i (h : i < l.length) j, j < sz → w.cell? (a.add (i * sz + j)) = (cl l[i])[j]? := by
      intro k
      induction k with
      | zero => intro _; exact ⟨[], rfl, fun i h => by simp at h⟩
      | succ k ih =>
        intro hk
        obtain ⟨l, hll, hg⟩ := ih (by omega)
        obtain ⟨cs', hc, ht'⟩ := hi k (by omega)
        obtain ⟨x, rfl⟩ := hel _ _ _ ht'
        rw [hC] at hc
        obtain ⟨_, _, hat⟩ := World.cells?_some hc
        refine ⟨l ++ [x], by simp [hll], fun i h j hj => ?_⟩
        rcases Nat.lt_or_ge i l.length with h' | h'
        · rw [List.getElem_append_left h']; exact hg i h' j hj
        · have e : i = k := by simp at h; omega
          subst e
          rw [List.getElem_append_right h']
          simp only [hll, Nat.sub_self, List.getElem_singleton]
          rw [← hat j hj, Go.Deep.add_add]
    obtain ⟨l, hll, hg⟩ := key m (Nat.le_refl _)
    refine ⟨l.take len, ?_⟩
    have h1 := Rd.ofCells (w := w) (a := a) (len := len) (cap := m) (sz := sz) (l.flatMap cl) hl hm hpos (by rw [rows_len hcl, hll]) (fun i hi' => by
      rw [rows_len hcl] at hi'
      have hq : i / sz < l.length := Nat.div_lt_of_lt_mul (by rw [Nat.mul_comm]; exact hi')
      have hr : i % sz < sz := Nat.mod_lt _ hpos
      have e : i = i / sz * sz + i % sz := by rw [Nat.mul_comm]; exact (Nat.div_add_mod i sz).symm
      have := hg (i / sz) hq (i % sz) hr
      rw [← e] at this
      rw [this, ← rows_get hcl l _ _ hq hr, ← e])
    rw [rows_take hcl] at h1
    have h2 : (l.take len).length = len := by rw [List.length_take, hll]; omega
    rw [h2]
    exact h1
end
end Go.Lane
