/-
  The lane, part E: small words on slots; conversions that only mark; regions that draw their order; calls that write nothing old.
  Generic in the program.
-/
import Derived.Test.YtkgckmdhlokjmaaDoorLaneD
import Derived.StillTail
namespace Go.Lane
section
variable {P : Program} {n : Nat} {E : Slots} {w : World} {K : Slots → World → Prop} {ops : Array Oper} {rest l : List Oper} {d : Tmp} {t ty : TypeId} {pos : String} {aft : Array Edge} {x y : Operand}

theorem flat_len {sz : Nat} : ∀ (vs : List Value), (∀ v ∈ vs, v.cells.size = sz) → (flat vs).length = vs.length * sz
  | [], _ => by simp [flat]
  | v :: r, h => by
    rw [flat_cons, List.length_append, flat_len r (fun u hu => h u (by simp [hu]))]
    have := h v (by simp)
    simp only [Array.length_toList, List.length_cons, Nat.add_mul]
    omega
theorem flat_bytes (l : List UInt8) : flat (l.map u8) = l.map u8 := by
  induction l with
  | nil => rfl
  | cons b r ih => rw [List.map_cons, flat_cons, ih]; rfl
/-- A slice just built is read. -/
theorem Rd.ofFlat {b sz m : Nat} {e : TypeId} {fr : Nat × Nat} {vs : List Value} (h : Has w b (flat vs).toArray e fr) (hv : ∀ v ∈ vs, v.cells.size = sz) (hm : vs.length = m) (hmax : m ≤ maxLen) : Rd w (.slice (some ⟨b, 0, none⟩) m m) sz m (flat vs) := by
  have hl := flat_len vs hv
  refine Rd.ofHas h hmax (by simp [hl, hm]) ?_
  simp only [List.drop_zero]
  rw [List.take_of_length_le (by simp [hl, hm])]
theorem Rd.ofBytes {b : Nat} {e : TypeId} {fr : Nat × Nat} (l : List UInt8) (h : Has w b (flat (l.map u8)).toArray e fr) (hmax : l.length ≤ maxLen) : Rd w (.slice (some ⟨b, 0, none⟩) l.length l.length) 1 l.length (l.map u8) := by
  have := Rd.ofFlat (sz := 1) (m := l.length) h (by intro v hv; obtain ⟨x, _, rfl⟩ := List.mem_map.1 hv; rfl) (by simp) hmax
  rwa [flat_bytes] at this
theorem Rd.byte {b : Nat} {e : TypeId} {fr : Nat × Nat} (x : UInt8) (h : Has w b (flat [u8 x]).toArray e fr) : Rd w (.slice (some ⟨b, 0, none⟩) 1 1) 1 1 [u8 x] :=
  Rd.ofBytes [x] h (by show 1 ≤ 2 ^ 63 - 1; omega)
theorem one_byte (x : UInt8) : ∀ u ∈ [u8 x], u.oneCell' = true := by simp [Value.oneCell']
theorem Own.ofBytes {base b : Nat} {e : TypeId} (l : List UInt8) (h : Has w b (flat (l.map u8)).toArray e (0, 0)) (hb : base ≤ b) (hmax : l.length ≤ maxLen) : Own w base e 1 (.slice (some ⟨b, 0, none⟩) l.length l.length) l.length (l.map u8) := by
  rw [flat_bytes] at h
  exact Own.ofHas h hb (by simp) hmax
theorem one_u8 (l : List UInt8) : ∀ u ∈ l.map u8, u.oneCell' = true := by
  intro v hv; obtain ⟨x, _, rfl⟩ := List.mem_map.1 hv; rfl

/-- A store of one cell. -/
theorem Has.setOne {b off : Nat} {cur : Array Value} {e : TypeId} {fr : Nat × Nat} {v : Value} (h : Has w b (spl cur off v.cells.toList) e fr) (hv : v.cells = #[v]) (hf : off < cur.size) : Has w b (cur.setIfInBounds off v) e fr := by
  rw [hv] at h
  rwa [spl_one hf] at h
/-- A store of a whole row. -/
theorem Has.setAll {b : Nat} {cur cs : Array Value} {e : TypeId} {fr : Nat × Nat} (h : Has w b (spl cur 0 cs.toList) e fr) (hs : cs.size = cur.size) : Has w b cs e fr := by
  rw [spl_all (by simpa using hs)] at h
  simpa using h

/-- A reading, its bytes said otherwise. -/
theorem Rd.bytes {v : Value} {k : Nat} {cs : List Value} (l : List UInt8) (h : Rd w v 1 k cs) (hk : k = l.length) (hcs : cs = l.map u8) : Rd w v 1 l.length (l.map u8) := by subst hk; subst hcs; exact h
theorem Own.bytes {base : Nat} {e : TypeId} {v : Value} {k : Nat} {cs : List Value} (l : List UInt8) (h : Own w base e 1 v k cs) (hk : k = l.length) (hcs : cs = l.map u8) : Own w base e 1 v l.length (l.map u8) := by subst hk; subst hcs; exact h
theorem Own.form {base sz m : Nat} {e : TypeId} {v : Value} {cs : List Value} (h : Own w base e sz v m cs) (hm : 0 < m) : ∃ g c, v = .slice (some ⟨g, 0, none⟩) m c := by
  rcases h.2 with ⟨_, h⟩ | ⟨g', c', cur, he, _⟩
  · omega
  · exact ⟨g', c', he⟩
theorem map_getD {α : Type} (l : List α) (k : Nat) (z : α) (h : k < l.length) : l[k]? = some (l.getD k z) := by
  rw [List.getD_eq_getElem?_getD, List.getElem?_eq_getElem h]; rfl

/-- A byte of a slice of bytes, at the address that the walk comes to. -/
theorem Rd.byteAt {a : Option Addr} {k c : Nat} {l : List UInt8} (h : Rd w (.slice a k c) 1 k (l.map u8)) {i : Nat} (hi : i < l.length) : ∃ b off, a = some ⟨b, off, none⟩ ∧ w.cell? ⟨b, off + i * 1, none⟩ = some (u8 (l.getD i 0)) := by
  have hk := h.len
  rw [List.length_map, Nat.mul_one] at hk
  obtain ⟨b, off, h1, h2⟩ := h.at0 (i := i) (by omega)
  refine ⟨b, off, h1, ?_⟩
  rw [Nat.mul_one, h2, List.getElem?_map, map_getD l i 0 hi]; rfl

/-- The newest slot's value, said otherwise. -/
theorem TL.top {v v' : Value} (e : v = v') (h : TL P n ops l ((d, v') :: E) w K) : TL P n ops l ((d, v) :: E) w K := by rw [e]; exact h
theorem TL.yes {p : Prop} [Decidable p] (hp : p) (h : TL P n ops l ((d, .bool true) :: E) w K) : TL P n ops l ((d, .bool (decide p)) :: E) w K := by rw [decide_eq_true hp]; exact h
theorem TL.no {p : Prop} [Decidable p] (hp : ¬ p) (h : TL P n ops l ((d, .bool false) :: E) w K) : TL P n ops l ((d, .bool (decide p)) :: E) w K := by rw [decide_eq_false hp]; exact h

/-- 'a && b' whose 'a' is known to hold. -/
theorem TL.andT {b : Bool} (hx : ev E x = some (.bool true)) (hy : ev E y = some (.bool b)) {z : Operand} (hd : Nat.blt d n = true) (h : TL P n ops rest ((d, .bool b) :: E) w K) : TL P n ops (⟨some d, .pick x y z, ty, pos, aft, none⟩ :: rest) E w K :=
  TL.pickT hx rfl hy hd h

/-- A conversion of bytes to their own type: the place behind the row's end is marked. -/
theorem TL.markBytes {e : TypeId} {b off ln c : Nat} {cur : Array Value} {tb : TypeId} (ht : P.underlying t = some (.slice e)) (he : P.underlying e = some (.int .u8)) (hx : ev E x = some (.slice (some ⟨b, off, none⟩) ln c)) (hh : Has w b cur tb (0, 0)) (hd : Nat.blt d n = true)
    (h : ∀ w', Has w' b cur tb (cur.size, cur.size + 1) → Ch [b] w w' → w'.heap.size = w.heap.size → TL P n ops rest ((d, .slice (some ⟨b, off, none⟩) ln c) :: E) w' K) : TL P n ops (⟨some d, .convert t t x, ty, pos, aft, none⟩ :: rest) E w K := by
  have hfz : ∀ k, (w.freeze ⟨b, cur.size, none⟩ 1).heap[k]? = if k = b then some (.cells cur tb (cur.size, cur.size + 1)) else w.heap[k]? := by
    intro k
    simp only [World.freeze, Nat.one_ne_zero, if_false, Array.getElem?_modify]
    by_cases hk : b = k
    · subst hk
      have : w.heap[b]? = some (.cells cur tb (0, 0)) := hh
      simp [this]
    · rw [if_neg hk, if_neg (fun e => hk e.symm)]
  have hsz : (w.freeze ⟨b, cur.size, none⟩ 1).heap.size = w.heap.size := by simp [World.freeze]
  refine TL.op rfl (by simpa [fits] using hd) _ (w.freeze ⟨b, cur.size, none⟩ 1) (fun a ha => ?_)
    (h _ (by show (w.freeze ⟨b, cur.size, none⟩ 1).heap[b]? = _; rw [hfz, if_pos rfl]) ⟨rfl, rfl, rfl, by omega, fun k _ hk => by rw [hfz, if_neg (by simpa using hk)]⟩ hsz)
  have e2 : w.shape? b = some (tb, cur.size) := by
    unfold World.shape?
    rw [show w.heap[b]? = some (.cells cur tb (0, 0)) from hh]
  simp only [execOp, ha.eval hx, convert, Sem.run_bind, run_underlying ht, run_underlying he, Result.andThen_ok, markStringish, run_shape, e2, beq_self_eq_true, Sem.run_pure, run_freeze]

/-! ## Regions that draw their order: what only reads, and calls that leave what was there alone -/
/-- Operations walked in the order of the text, where each does the same whatever has grown beside. -/
structure TQ (P : Program) (n : Nat) (ops : Array Oper) (C : World → Prop) (l : List Oper) (E : Slots) (K : Slots → Prop) : Prop where
  run : ∀ a, Env n E a → wpQuiet P ops C (fun a' => ∃ E', Env n E' a' ∧ K E') l a

variable {C : World → Prop} {KQ : Slots → Prop}

theorem TQ.done (h : KQ E) : TQ P n ops C [] E KQ := ⟨fun _ ha => wpQuiet_nil ⟨E, ha, h⟩⟩
theorem TQ.top {v v' : Value} (e : v = v') (h : TQ P n ops C l ((d, v') :: E) KQ) : TQ P n ops C l ((d, v) :: E) KQ := by rw [e]; exact h
theorem TQ.sub {F : Slots} (hs : Sub F E) (h : TQ P n ops C l F KQ) : TQ P n ops C l E KQ := ⟨fun a ha => h.run a (ha.sub hs)⟩

/-- An operation that, in every world of the class, yields the same value and leaves the world. -/
theorem TQ.val {op : Op} (hd : Nat.blt d n = true) (v : Value) (hrun : ∀ w, C w → ∀ a, Env n E a → (execOp a.eval ⟨some d, op, ty, pos, aft, none⟩).run P w = .ok (.value v) w)
    (h : TQ P n ops C rest ((d, v) :: E) KQ) : TQ P n ops C (⟨some d, op, ty, pos, aft, none⟩ :: rest) E KQ := ⟨fun a ha => by
  refine wpQuiet_step fun K hK => ?_
  simp only [Region.wanted, if_true]
  refine ⟨v, fun w hw => ?_, hK _ (h.run _ (ha.put (d := some d) (by simpa [fits] using hd) v))⟩
  unfold Oper.quietAt
  rw [hrun w hw a ha]
  exact ⟨rfl, rfl⟩⟩

theorem yielded_known {E : Slots} {a : Act} (ha : Env n E a) {j : Nat} {dj : Tmp} {v : Value} (hj : (ops[j]?).bind (·.dst) = some dj) (hb : look E dj = some v) (hd : Nat.blt dj n = true) : yielded ops a.tmps j = match v with | .bool b => some b | _ => none := by
  have h1 := ha.get dj _ hb
  have hdn : dj < n := by simpa [Nat.blt_eq] using hd
  have h2 : a.tmps[dj]? = some v := by
    rw [Array.getD_eq_getD_getElem?, Array.getElem?_eq_getElem (by rw [ha.size]; exact hdn)] at h1
    rw [Array.getElem?_eq_getElem (by rw [ha.size]; exact hdn)]
    simpa using h1
  simp only [yielded, hj, Option.bind_some, h2]
  cases v <;> rfl
theorem TQ.guardYes {j : Nat} {t : Bool} {d : Tmp} {d' : Option Tmp} {op' : Op} {ty : TypeId} {pos : String} {aft : Array Edge} (hj : (ops[j]?).bind (·.dst) = some d) (hb : look E d = some (.bool t)) (hd : Nat.blt d n = true)
    (h : TQ P n ops C (⟨d', op', ty, pos, aft, none⟩ :: rest) E KQ) : TQ P n ops C (⟨d', op', ty, pos, aft, some (j, t)⟩ :: rest) E KQ := ⟨fun a ha => by
  have hy := yielded_known ha hj hb hd
  have h3 := h.run a ha
  unfold wpQuiet at h3 ⊢
  rw [if_pos (by simp [Region.wanted, hy])]
  rw [if_pos (by simp [Region.wanted])] at h3
  exact h3⟩
theorem TQ.guardNo {j : Nat} {t u : Bool} {d : Tmp} {d' : Option Tmp} {op' : Op} {ty : TypeId} {pos : String} {aft : Array Edge} (hj : (ops[j]?).bind (·.dst) = some d) (hb : look E d = some (.bool u)) (htu : (u == t) = false) (hd : Nat.blt d n = true) (hd' : fits n d' = true)
    (h : TQ P n ops C rest (upd E d' undef) KQ) : TQ P n ops C (⟨d', op', ty, pos, aft, some (j, t)⟩ :: rest) E KQ := ⟨fun a ha => by
  have hy := yielded_known ha hj hb hd
  unfold wpQuiet
  rw [if_neg (by cases u <;> cases t <;> simp_all [Region.wanted])]
  exact h.run _ (ha.put hd' undef)⟩
theorem TQ.guardUndef {j : Nat} {t : Bool} {d : Tmp} {d' : Option Tmp} {op' : Op} {ty : TypeId} {pos : String} {aft : Array Edge} (hj : (ops[j]?).bind (·.dst) = some d) (hb : look E d = some undef) (hd : Nat.blt d n = true) (hd' : fits n d' = true)
    (h : TQ P n ops C rest (upd E d' undef) KQ) : TQ P n ops C (⟨d', op', ty, pos, aft, some (j, t)⟩ :: rest) E KQ := ⟨fun a ha => by
  have hy := yielded_known ha hj hb hd
  unfold wpQuiet
  rw [if_neg (by simp [Region.wanted, hy, undef])]
  exact h.run _ (ha.put hd' undef)⟩
theorem TQ.yes {p : Prop} [Decidable p] (hp : p) (h : TQ P n ops C l ((d, .bool true) :: E) KQ) : TQ P n ops C l ((d, .bool (decide p)) :: E) KQ := by rw [decide_eq_true hp]; exact h
theorem TQ.no {p : Prop} [Decidable p] (hp : ¬ p) (h : TQ P n ops C l ((d, .bool false) :: E) KQ) : TQ P n ops C l ((d, .bool (decide p)) :: E) KQ := by rw [decide_eq_false hp]; exact h
theorem TQ.em {p : Prop} [Decidable p] (h1 : p → TQ P n ops C l ((d, .bool true) :: E) KQ) (h2 : ¬ p → TQ P n ops C l ((d, .bool false) :: E) KQ) : TQ P n ops C l ((d, .bool (decide p)) :: E) KQ := by
  by_cases hp : p
  · rw [decide_eq_true hp]; exact h1 hp
  · rw [decide_eq_false hp]; exact h2 hp
theorem TQ.emB {b : Bool} (h1 : b = true → TQ P n ops C l ((d, .bool true) :: E) KQ) (h2 : b = false → TQ P n ops C l ((d, .bool false) :: E) KQ) : TQ P n ops C l ((d, .bool b) :: E) KQ := by
  cases b
  · exact h2 rfl
  · exact h1 rfl

/-- A call that hands back one value and leaves the class. -/
theorem TQ.call {f : FuncId} {xs : List Operand} {ts : Array TypeId} {vs : List Value} (v : Value) (hf : Callable P f)
    (hxs : evs E xs = some vs) (hd : Nat.blt d n = true) (hc : ∀ w, C w → Rets P f vs.toArray w (fun r w' => r = v ∧ C w'))
    (h : TQ P n ops C rest ((d, v) :: E) KQ) : TQ P n ops C (⟨some d, .call { callee := .value (.func f), args := xs.toArray, argTypes := ts }, ty, pos, aft, none⟩ :: rest) E KQ := ⟨fun a ha => by
  refine wpQuiet_step fun K hK => ?_
  simp only [Region.wanted, if_true]
  refine ⟨v, fun w hw => ?_, hK _ (h.run _ (ha.put (d := some d) (by simpa [fits] using hd) v))⟩
  unfold Oper.quietAt
  have e := ha.evals hxs
  have hr : (execOp a.eval ⟨some d, .call { callee := .value (.func f), args := xs.toArray, argTypes := ts }, ty, pos, aft, none⟩).run P w = .ok (.enter f vs.toArray) w := by
    simp [execOp, resolve, Act.eval, Deferred.ofValue, invoke, run_callFunc hf, e]
  rw [hr]
  exact ⟨rfl, Calls.mono (hc w hw) fun _ _ ⟨r, he, hr, hC⟩ => ⟨by rw [he, hr], hC⟩⟩⟩

/-- Operations that yield a value and nothing else. -/
def valued : Op → Bool
  | .move _ | .assign _ | .pick .. | .binOp .. | .unOp .. | .convert .. | .fieldAddr .. | .field .. | .indexAddr .. | .index .. | .load .. | .slice .. | .extract .. | .makeInterface .. | .makeFunc .. | .build .. => true
  | .call { callee := .builtin .len, .. } | .call { callee := .builtin .cap, .. } | .call { callee := .builtin .min, .. } | .call { callee := .builtin .max, .. } => true
  | _ => false

theorem exec_valued {o : Oper} (h : valued o.op = true) (ρ : Operand → Value) : ∃ s : Sem Value, execOp ρ o = (do pure (.value (← s))) := by
  obtain ⟨dst, op, ty, pos, aft, gd⟩ := o
  cases op <;> simp only [valued] at h <;> try (exact absurd h (by decide))
  case move x => exact ⟨pure (ρ x), by simp [execOp]⟩
  case assign x => exact ⟨pure (ρ x), by simp [execOp]⟩
  case pick c a b => exact ⟨do pure (if ← asBool (ρ c) then ρ a else ρ b), by simp [execOp]⟩
  case call c =>
    obtain ⟨ce, xs, ts⟩ := c
    cases ce with
    | builtin b =>
      cases b
      case len => exact ⟨Builtin.len_ ts ty (xs.map ρ), by simp [execOp, resolve, invoke, builtin]⟩
      case cap => exact ⟨Builtin.cap_ ts ty (xs.map ρ), by simp [execOp, resolve, invoke, builtin]⟩
      case min => exact ⟨Builtin.min_ ts ty (xs.map ρ), by simp [execOp, resolve, invoke, builtin]⟩
      case max => exact ⟨Builtin.max_ ts ty (xs.map ρ), by simp [execOp, resolve, invoke, builtin]⟩
      all_goals (exfalso; simp at h)
    | value f => exact absurd h (by simp)
    | invoke r m => exact absurd h (by simp)
  all_goals exact ⟨_, rfl⟩

/-- What a law of the lane says of one operation's run. -/
theorem run_ofTL {o : Oper} {v : Value} (hg : o.guard = none) (hd : o.dst = some d) (hdn : Nat.blt d n = true) (hv : valued o.op = true) (h : TL P n ops [o] E w (fun E' w' => w' = w ∧ look E' d = some v)) :
    ∀ a, Env n E a → (execOp a.eval o).run P w = .ok (.value v) w := by
  intro a ha
  have h1 := h.run a ha
  have hdn' : d < n := by simpa [Nat.blt_eq] using hdn
  unfold wpList at h1
  rw [if_pos (by simp [Region.wanted, hg])] at h1
  rcases h1 with h1 | ⟨_, a', w', he, _⟩
  · obtain ⟨s, hs⟩ := exec_valued hv a.eval
    unfold Oper.wp at h1
    rw [hs] at h1 ⊢
    simp only [Sem.run_bind, Sem.run_pure] at h1 ⊢
    cases hr : s.run P w with
    | ok u w' =>
      rw [hr] at h1
      simp only [Result.andThen_ok, Oper.upon_value, wpList] at h1 ⊢
      obtain ⟨_, E', hE, hw, hl⟩ := h1
      have h2 := hE.get d v hl
      rw [hd] at h2
      simp only [Act.put] at h2
      rw [Array.getD_eq_getD_getElem?, Array.getElem?_setIfInBounds, if_pos rfl, if_pos (by rw [ha.size]; exact hdn')] at h2
      simp only [Option.getD_some] at h2
      rw [h2, hw]
    | halt x w' =>
      rw [hr] at h1
      simp only [Result.andThen_halt] at h1
      cases x <;> simp only [Oper.upon] at h1
      exact absurd h1.1 (by simp)
  · cases he

/-- A law of the lane, taken where the order is open. -/
theorem TQ.via {o : Oper} {v : Value} (hg : o.guard = none) (hd : o.dst = some d) (hdn : Nat.blt d n = true) (hv : valued o.op = true) (hl : ∀ w, C w → TL P n ops [o] E w (fun E' w' => w' = w ∧ look E' d = some v))
    (h : TQ P n ops C rest ((d, v) :: E) KQ) : TQ P n ops C (o :: rest) E KQ := ⟨fun a ha => by
  refine wpQuiet_step fun K hK => ?_
  rw [if_pos (by simp [Region.wanted, hg])]
  have := h.run _ (ha.put (d := some d) (by simpa [fits] using hdn) v)
  refine ⟨v, fun w hw => ?_, hK _ (by rw [hd]; exact this)⟩
  unfold Oper.quietAt
  rw [run_ofTL hg hd hdn hv (hl w hw) a ha]
  exact ⟨rfl, rfl⟩⟩

/-- The same in one fixed world: the head of a region whose tail may do anything. -/
structure TS (P : Program) (n : Nat) (ops : Array Oper) (w : World) (l : List Oper) (E : Slots) (K : Slots → Prop) : Prop where
  run : ∀ a, Env n E a → wpStill P ops w (fun a' => ∃ E', Env n E' a' ∧ K E') l a
theorem TS.done (h : KQ E) : TS P n ops w [] E KQ := ⟨fun _ ha => wpStill_nil ⟨E, ha, h⟩⟩
theorem TS.via {o : Oper} {v : Value} (hg : o.guard = none) (hd : o.dst = some d) (hdn : Nat.blt d n = true) (hv : valued o.op = true) (hl : TL P n ops [o] E w (fun E' w' => w' = w ∧ look E' d = some v))
    (h : TS P n ops w rest ((d, v) :: E) KQ) : TS P n ops w (o :: rest) E KQ := ⟨fun a ha => by
  refine wpStill_step fun K hK => ?_
  rw [if_pos (by simp [Region.wanted, hg])]
  have := h.run _ (ha.put (d := some d) (by simpa [fits] using hdn) v)
  unfold Oper.still
  rw [run_ofTL hg hd hdn hv hl a ha, Oper.stillUpon_value]
  exact hK _ (by rw [hd]; exact this)⟩

theorem TC.regionTail {Q : Exit → Slots → World → Prop} {id : Nat} {l : List Oper} (N : Nat) (hm : P.follows .mixedOrders = true) (hB : Region.lexTailB .any l.toArray N = true)
    (h : TS P n l.toArray w.drew (l.take N) E (fun E' => TL P n l.toArray (l.drop N) E' w.drew (fun E w => Q .normal E w))) : TC P n (.region id l.toArray true) E w Q := ⟨fun a ha => by
  refine wp_region_still_tail N hm hB ?_
  have mono : ∀ (l' : List Oper) (Q1 Q2 : Act → Prop) (a : Act), (∀ a, Q1 a → Q2 a) → wpStill P l.toArray w.drew Q1 l' a → wpStill P l.toArray w.drew Q2 l' a := by
    intro l'
    induction l' with
    | nil => intro Q1 Q2 a hq h; exact hq _ h
    | cons o r ih =>
      intro Q1 Q2 a hq h
      unfold wpStill at h ⊢
      split
      · rename_i hw
        rw [if_pos hw] at h
        exact Oper.still_mono (fun a h => ih _ _ _ hq h) h
      · rename_i hw
        rw [if_neg hw] at h
        exact ih _ _ _ hq h
  refine mono _ _ _ _ (fun a' ⟨E', hE, hk⟩ => ?_) (h.run a ha)
  have h2 := hk.run a' hE
  have weak : ∀ (l' : List Oper) (Q1 Q2 : Exit → Act → World → Prop) (a : Act) (w : World), (∀ e a w, Q1 e a w → Q2 e a w) → wpList P l.toArray Q1 l' a w → wpList P l.toArray Q2 l' a w := by
    intro l'
    induction l' with
    | nil => intro Q1 Q2 a w hq h; exact hq _ _ _ h
    | cons o r ih =>
      intro Q1 Q2 a w hq h
      unfold wpList at h ⊢
      split
      · rename_i hw
        rw [if_pos hw] at h
        rcases h with h | ⟨h1, a', w', h2⟩
        · left
          have h3 := Oper.wp_mono (fun a w h => ih Q1 Q2 a w hq h) h
          unfold Oper.wp at h3 ⊢
          generalize (execOp a.eval o).run P w = r at *
          cases r with
          | ok nx w' =>
            cases nx <;> simp only [Oper.upon] at h3 ⊢ <;> first | exact h3 | skip
            case enter f args =>
              refine Calls.mono h3 fun e w'' he => ?_
              cases e with
              | returned v => exact he
              | panicked ch => exact hq _ _ _ he
              | outgrown => obtain ⟨a', w3, he⟩ := he; exact ⟨a', w3, hq _ _ _ he⟩
          | halt x w' => cases x <;> simp only [Oper.upon] at h3 ⊢ <;> first | exact hq _ _ _ h3 | exact h3
        · right
          exact ⟨h1, a', w', hq _ _ _ h2⟩
      · rename_i hw
        rw [if_neg hw] at h
        exact ih _ _ _ _ hq h
  exact weak _ _ _ _ _ (fun e a w ⟨he, E', hE, hk⟩ => by subst he; exact ⟨E', hE, hk⟩) h2⟩

theorem TC.regionQ {Q : Exit → Slots → World → Prop} {id : Nat} {l : List Oper} (C : World → Prop) (hm : P.follows .mixedOrders = true) (hB : Region.lexB .any l.toArray = true) (hC : C { w with drawn := w.drawn + 1 })
    (h : TQ P n l.toArray C l E (fun E' => ∀ w', C w' → Q .normal E' w')) : TC P n (.region id l.toArray true) E w Q := ⟨fun a ha => by
  have h1 := h.run a ha
  have key := wp_region_quiet (P := P) (ops := l.toArray) (C := C) (id := id) (Q := lift n Q) (a := a) (w := w) hm hB hC ?_
  · exact key
  · rw [show l.toArray.toList = l from rfl]
    have mono : ∀ (l' : List Oper) (Q1 Q2 : Act → Prop) (a : Act), (∀ a, Q1 a → Q2 a) → wpQuiet P l.toArray C Q1 l' a → wpQuiet P l.toArray C Q2 l' a := by
      intro l'
      induction l' with
      | nil => intro Q1 Q2 a hq h; exact hq _ h
      | cons o r ih =>
        intro Q1 Q2 a hq h
        unfold wpQuiet at h ⊢
        split
        · rename_i hw
          rw [if_pos hw] at h
          obtain ⟨v, h1, h2⟩ := h
          exact ⟨v, h1, ih _ _ _ hq h2⟩
        · rename_i hw
          rw [if_neg hw] at h
          exact ih _ _ _ hq h
    exact mono _ _ _ _ (fun a' ⟨E', hE, hk⟩ w' hw' => ⟨E', hE, hk w' hw'⟩) h1⟩

/-! ## make, min, max -/
theorem TL.makeSlice {e : TypeId} {sz by_ : Nat} {z : Value} {k : IntKind} {i : Int} (m : Nat) (ht : SliceT P t e sz by_ z) (hx : ev E x = some (.int k i)) (hy : ev E y = some (.int k i)) (hi : i = (m : Int)) (hroom : by_ * m ≤ 281474976710656) (hmax : m ≤ maxLen) (hd : Nat.blt d n = true)
    (h : ∀ w', Own w' w.heap.size e sz (.slice (some ⟨w.heap.size, 0, none⟩) m m) m (madeCells z.cells (m * sz)).toList → Ch [] w w' → w.heap.size < w'.heap.size → TL P n ops rest ((d, .slice (some ⟨w.heap.size, 0, none⟩) m m) :: E) w' K) : TL P n ops (⟨some d, .makeSlice t x y, ty, pos, aft, none⟩ :: rest) E w K := by
  obtain ⟨ti, hti, hz, hsz, hby⟩ := ht.info
  subst hi
  obtain ⟨w', hr, h1, h2⟩ := run_make_full (P := P) w w.heap.size t e ti z sz ht.under hti hz hsz k k m (by rw [hby]; exact hroom) hmax (Nat.le_refl _)
  refine TL.op rfl (by simpa [fits] using hd) _ w' (fun a ha => ?_) (h w' h1 (Ch.grown h2 (by simp)) (World.ownsRow.lt h1 _ rfl).2)
  simp only [execOp, ha.eval hx, ha.eval hy, Sem.run_bind, hr, Result.andThen_ok, Sem.run_pure]
theorem Own.has {base g c m sz : Nat} {e : TypeId} {cs : List Value} (h : Own w base e sz (.slice (some ⟨g, 0, none⟩) m c) m cs) : ∃ cur, Has w g cur e (0, 0) ∧ cur.size = c * sz ∧ m ≤ c ∧ c ≤ maxLen ∧ base ≤ g ∧ cur.toList.take (m * sz) = cs := by
  rcases h.2 with ⟨h, _⟩ | ⟨g', c', cur, he, hb, hg, h3, h4, h5, h6⟩
  · cases h
  · cases he; exact ⟨cur, hg, h5, h3, h4, hb, h6⟩
theorem made_bytes (m : Nat) : (madeCells (Value.int .u8 0).cells (m * 1)).toList = (List.replicate m (0 : UInt8)).map u8 := by
  apply List.ext_getElem?
  intro j
  simp only [madeCells, Array.toList_map, List.map_replicate, Nat.mul_one, Array.toList_range, List.getElem?_map, List.getElem?_replicate]
  by_cases hj : j < m
  · rw [List.getElem?_range hj, if_pos hj]
    show some ((#[Value.int .u8 0] : Array Value)[j % 1]!) = _
    rw [Nat.mod_one]; rfl
  · rw [List.getElem?_eq_none (by simpa using hj), if_neg hj]; rfl
theorem TL.min2 {k : IntKind} {a b : Int} {ts : Array TypeId} (hx : ev E x = some (.int k a)) (hy : ev E y = some (.int k b)) (hd : Nat.blt d n = true)
    (h : TL P n ops rest ((d, .int k (min a b)) :: E) w K) : TL P n ops (⟨some d, .call { callee := .builtin .min, args := #[x, y], argTypes := ts }, ty, pos, aft, none⟩ :: rest) E w K :=
  TL.val hd _ (fun a' ha => by
    have e : (if b < a then b else a) = min a b := by omega
    have hr : (Builtin.min_ ts ty #[.int k a, .int k b]).run P w = .ok (.int k (min a b)) w := by
      simp only [Builtin.min_, List.foldlM_cons, List.foldlM_nil, Builtin.min2, Sem.run_bind, Sem.run_pure, Result.andThen_ok, e]
    simp only [execOp, resolve, invoke, builtin, Sem.run_bind, Sem.run_pure, Result.andThen_ok, List.map_toArray, List.map_cons, List.map_nil, ha.eval hx, ha.eval hy, hr]) h
theorem TL.max2 {k : IntKind} {a b : Int} {ts : Array TypeId} (hx : ev E x = some (.int k a)) (hy : ev E y = some (.int k b)) (hd : Nat.blt d n = true)
    (h : TL P n ops rest ((d, .int k (max a b)) :: E) w K) : TL P n ops (⟨some d, .call { callee := .builtin .max, args := #[x, y], argTypes := ts }, ty, pos, aft, none⟩ :: rest) E w K :=
  TL.val hd _ (fun a' ha => by
    have e : (if b > a then b else a) = max a b := by omega
    have hr : (Builtin.max_ ts ty #[.int k a, .int k b]).run P w = .ok (.int k (max a b)) w := by
      simp only [Builtin.max_, List.foldlM_cons, List.foldlM_nil, Builtin.max2, Sem.run_bind, Sem.run_pure, Result.andThen_ok, e]
    simp only [execOp, resolve, invoke, builtin, Sem.run_bind, Sem.run_pure, Result.andThen_ok, List.map_toArray, List.map_cons, List.map_nil, ha.eval hx, ha.eval hy, hr]) h
theorem TL.min3 {k : IntKind} {a b c : Int} {z : Operand} {ts : Array TypeId} (hx : ev E x = some (.int k a)) (hy : ev E y = some (.int k b)) (hz : ev E z = some (.int k c)) (hd : Nat.blt d n = true)
    (h : TL P n ops rest ((d, .int k (min (min a b) c)) :: E) w K) : TL P n ops (⟨some d, .call { callee := .builtin .min, args := #[x, y, z], argTypes := ts }, ty, pos, aft, none⟩ :: rest) E w K :=
  TL.val hd _ (fun a' ha => by
    have e : (if b < a then b else a) = min a b := by omega
    have e2 : (if c < min a b then c else min a b) = min (min a b) c := by omega
    have hr : (Builtin.min_ ts ty #[.int k a, .int k b, .int k c]).run P w = .ok (.int k (min (min a b) c)) w := by
      simp only [Builtin.min_, List.foldlM_cons, List.foldlM_nil, Builtin.min2, Sem.run_bind, Sem.run_pure, Result.andThen_ok, e, e2]
    simp only [execOp, resolve, invoke, builtin, Sem.run_bind, Sem.run_pure, Result.andThen_ok, List.map_toArray, List.map_cons, List.map_nil, ha.eval hx, ha.eval hy, ha.eval hz, hr]) h

/-! ## x[:j] and x[i:] with their very values -/
theorem Rd.to {ad : Option Addr} {l c sz : Nat} {cs : List Value} (h : Rd w (.slice ad l c) sz l cs) {j : Nat} (hj : j ≤ l) : Rd w (.slice ad j c) sz j (cs.take (j * sz)) := by
  rcases h with ⟨⟨ad', h⟩, rfl, rfl⟩ | ⟨b, off, c', cur, t, fr, e, hh, g1, g2, g3, rfl⟩
  · cases h
    have : j = 0 := by omega
    subst this
    exact .inl ⟨⟨_, rfl⟩, rfl, by simp⟩
  · cases e
    refine .inr ⟨b, off, c, cur, t, fr, rfl, hh, by omega, g2, g3, ?_⟩
    rw [List.take_take, Nat.min_eq_left (Nat.mul_le_mul_right sz hj)]
theorem Rd.cap {ad : Option Addr} {l c sz : Nat} {cs : List Value} (h : Rd w (.slice ad l c) sz l cs) : l ≤ c := by
  rcases h with ⟨⟨ad', h⟩, rfl, rfl⟩ | ⟨b, off, c', cur, t, fr, e, hh, g1, g2, g3, rfl⟩
  · cases h; exact Nat.le_refl _
  · cases e; exact g1
theorem TL.sliceTo {e : TypeId} {sz by_ : Nat} {z : Value} {ad : Option Addr} {l c : Nat} {k : IntKind} {i : Int} (j : Nat) (ht : SliceT P t e sz by_ z) (hx : ev E x = some (.slice ad l c)) (hy : ev E y = some (.int k i)) (hij : i = (j : Int)) (hj : j ≤ c) (hd : Nat.blt d n = true)
    (h : TL P n ops rest ((d, .slice ad j c) :: E) w K) : TL P n ops (⟨some d, .slice t x none (some y) none, ty, pos, aft, none⟩ :: rest) E w K :=
  TL.val hd _ (fun a ha => by
    obtain ⟨ti, hti, _, hsz, _⟩ := ht.info
    subst hij
    have e1 : ad.map (fun a => a.add 0) = ad := by cases ad <;> simp [Addr.add]
    simp [execOp, ha.eval hx, ha.eval hy, Instr.sliceAt, Instr.slice, run_underlying ht.under, Instr.sliceBounds, Instr.sliceBound, asIntOf, run_sizeOf hti, hj, e1]) h
/-- Where 'x[i:]' begins. -/
def adv (ad : Option Addr) (c i sz : Nat) : Option Addr := if c = i then ad else ad.map (·.add (i * sz))
theorem TL.sliceFrom {e : TypeId} {sz by_ : Nat} {z : Value} {ad : Option Addr} {l c : Nat} {k : IntKind} {i : Int} (j : Nat) (ht : SliceT P t e sz by_ z) (hx : ev E x = some (.slice ad l c)) (hy : ev E y = some (.int k i)) (hij : i = (j : Int)) (hj : j ≤ l) (hd : Nat.blt d n = true)
    (h : TL P n ops rest ((d, .slice (adv ad c j sz) (l - j) (c - j)) :: E) w K) : TL P n ops (⟨some d, .slice t x (some y) none none, ty, pos, aft, none⟩ :: rest) E w K :=
  TL.val hd _ (fun a ha => by
    obtain ⟨ti, hti, _, hsz, _⟩ := ht.info
    subst hij
    simp [execOp, ha.eval hx, ha.eval hy, Instr.sliceAt, Instr.slice, run_underlying ht.under, Instr.sliceBounds, Instr.sliceBound, asIntOf, run_sizeOf hti, hj, hsz, adv]) h
theorem TL.sliceLoHi {e : TypeId} {sz by_ : Nat} {z : Value} {ad : Option Addr} {l c : Nat} {k k' : IntKind} {i i' : Int} {y' : Operand} (j j' : Nat) (ht : SliceT P t e sz by_ z) (hx : ev E x = some (.slice ad l c)) (hy : ev E y = some (.int k i)) (hy' : ev E y' = some (.int k' i')) (hij : i = (j : Int)) (hij' : i' = (j' : Int)) (hj : j ≤ j') (hj' : j' ≤ c) (hd : Nat.blt d n = true)
    (h : TL P n ops rest ((d, .slice (adv ad c j sz) (j' - j) (c - j)) :: E) w K) : TL P n ops (⟨some d, .slice t x (some y) (some y') none, ty, pos, aft, none⟩ :: rest) E w K :=
  TL.val hd _ (fun a ha => by
    obtain ⟨ti, hti, _, hsz, _⟩ := ht.info
    subst hij; subst hij'
    simp [execOp, ha.eval hx, ha.eval hy, ha.eval hy', Instr.sliceAt, Instr.slice, run_underlying ht.under, Instr.sliceBounds, Instr.sliceBound, asIntOf, run_sizeOf hti, hj, hj', hsz, adv]) h
theorem Rd.part {ad : Option Addr} {l c sz : Nat} {cs : List Value} (h : Rd w (.slice ad l c) sz l cs) {i j : Nat} (hij : i ≤ j) (hj : j ≤ l) : Rd w (.slice (adv ad c i sz) (j - i) (c - i)) sz (j - i) ((cs.drop (i * sz)).take ((j - i) * sz)) := by
  have h0 := h
  rcases h with ⟨⟨ad', h⟩, rfl, rfl⟩ | ⟨b, off, c', cur, t, fr, e, hh, g1, g2, g3, rfl⟩
  · cases h
    have e1 : i = 0 := by omega
    have e2 : j = 0 := by omega
    subst e1; subst e2
    exact .inl ⟨⟨_, rfl⟩, rfl, by simp⟩
  · cases e
    have := h0.sub hij hj
    have ea : adv (some ⟨b, off, none⟩) c i sz = some ⟨b, if c = i then off else off + i * sz, none⟩ := by
      unfold adv; split <;> simp [Addr.add_lit]
    rw [ea]; exact this
theorem Rd.behind {ad : Option Addr} {l c sz : Nat} {cs : List Value} (h : Rd w (.slice ad l c) sz l cs) {i : Nat} (hi : i ≤ l) : Rd w (.slice (adv ad c i sz) (l - i) (c - i)) sz (l - i) (cs.drop (i * sz)) := by
  have := h.part hi (Nat.le_refl l)
  rwa [List.take_of_length_le (by rw [List.length_drop, h.len, Nat.sub_mul]; exact Nat.le_refl _)] at this
theorem blk_adv {ad : Option Addr} {c i sz l l' c' : Nat} : (Value.slice (adv ad c i sz) l' c').ownBlock = (Value.slice ad l c).ownBlock := by
  unfold adv
  split
  · cases ad <;> rfl
  · cases ad with
    | none => rfl
    | some a => simp [Value.ownBlock, Addr.add]; split <;> rfl
end
end Go.Lane
