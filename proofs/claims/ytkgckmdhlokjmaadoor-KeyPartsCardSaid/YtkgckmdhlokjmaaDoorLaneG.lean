/-
  The lane, part G: nil slices compared, arrays as values, arrays out of slices, parts of structs.
  Generic in the program.
-/
import Derived.Test.YtkgckmdhlokjmaaDoorLaneF
import Derived.Lib.SliceRun
import Derived.WalkSpells
import Derived.OrdersHeld
namespace Go.Lane
section
variable {P : Program} {n : Nat} {E : Slots} {w : World} {K : Slots → World → Prop} {ops : Array Oper} {rest : List Oper} {d : Tmp} {t ty : TypeId} {pos : String} {aft : Array Edge} {x y : Operand}

theorem TL.eqlNil {yt e : TypeId} {a : Option Addr} {l c l' c' : Nat} (ht : P.underlying t = some (.slice e)) (hx : ev E x = some (.slice a l c)) (hy : ev E y = some (.slice none l' c')) (hd : Nat.blt d n = true)
    (h : TL P n ops rest ((d, .bool (decide (a = none))) :: E) w K) : TL P n ops (⟨some d, .binOp .eql t x y yt, ty, pos, aft, none⟩ :: rest) E w K := by
  refine TL.bin hx hy (guard_slice _ _ _ _ _ _ _ _ _ _ _) ?_ hd h
  have := Lib.run_eql_slice_nil w t e a l c l' c' ht
  rw [this]; cases a <;> rfl
theorem TL.neqNil {yt e : TypeId} {a : Option Addr} {l c l' c' : Nat} (ht : P.underlying t = some (.slice e)) (hx : ev E x = some (.slice a l c)) (hy : ev E y = some (.slice none l' c')) (hd : Nat.blt d n = true)
    (h : TL P n ops rest ((d, .bool (decide (a ≠ none))) :: E) w K) : TL P n ops (⟨some d, .binOp .neq t x y yt, ty, pos, aft, none⟩ :: rest) E w K := by
  refine TL.bin hx hy (guard_slice _ _ _ _ _ _ _ _ _ _ _) ?_ hd h
  have := run_neq_slice_nil_any w t e a l c l' c' ht
  rw [this]; cases a <;> simp

/-- An array of plain elements, as a value. -/
structure ArrV (P : Program) (t : TypeId) (len : Nat) (e : TypeId) : Prop where
  under : P.underlying t = some (.array len e)
  plain : Plain P e
  size : (P.info? e).map (·.size) = some 1
theorem TL.index {e : TypeId} {len : Nat} {cs : Array Value} {v : Value} {k : IntKind} {i : Int} (j : Nat) (ht : ArrV P t len e) (hx : ev E x = some (.agg cs)) (hy : ev E y = some (.int k i)) (hij : i = (j : Int)) (hj : j < len) (hv : cs[j]? = some v) (hd : Nat.blt d n = true)
    (h : TL P n ops rest ((d, v) :: E) w K) : TL P n ops (⟨some d, .index t x y, ty, pos, aft, none⟩ :: rest) E w K :=
  TL.val hd _ (fun a ha => by
    subst hij
    have h1 : (0 : Int) ≤ (j : Int) ∧ (j : Int) < (len : Int) := by omega
    simp [execOp, ha.eval hx, ha.eval hy, Instr.index, asIntOf, run_underlying ht.under, h1, run_sizeOf' ht.size, part, run_isAgg_plain ht.plain, hv, hj]) h
theorem TL.arrayPtr {e : TypeId} {len l c : Nat} {a : Option Addr} (ht : P.underlying t = some (.array len e)) (hx : ev E x = some (.slice a l c)) (hl : len ≤ l) (hd : Nat.blt d n = true)
    (h : TL P n ops rest ((d, .pointer a) :: E) w K) : TL P n ops (⟨some d, .sliceToArrayPointer t x, ty, pos, aft, none⟩ :: rest) E w K :=
  TL.val hd _ (fun a' ha => by
    simp [execOp, ha.eval hx, Instr.arrayAt, run_underlying ht, Nat.not_lt.2 hl]) h

/-- One element of an own row, stored. -/
theorem Own.store1 {w w' : World} {base g c m : Nat} {e : TypeId} {cs : List Value} {cur : Array Value} {k : Nat} {v : Value} (h : Own w base e 1 (.slice (some ⟨g, 0, none⟩) m c) m cs) (hcur : Has w g cur e (0, 0))
    (hb : Has w' g (cur.setIfInBounds k v) e (0, 0)) : Own w' base e 1 (.slice (some ⟨g, 0, none⟩) m c) m (cs.set k v) := by
  rcases h.2 with ⟨h, _⟩ | ⟨g', c', cur', he, hbg, hg, h3, h4, h5, h6⟩
  · cases h
  · cases he
    have e1 : cur = cur' := by
      have := hcur.symm.trans hg
      simpa using this
    subst e1
    refine ⟨by simpa using h.1, .inr ⟨g, c, _, rfl, hbg, hb, h3, h4, by simpa using h5, ?_⟩⟩
    rw [Array.toList_setIfInBounds, List.take_set, h6]

/-! ## Regions that draw their order: what reads old memory beside calls that make new memory -/
/-- Whatever order is picked from here on, 'S' held behind each step. -/
structure TH (P : Program) (n : Nat) (ops : Array Oper) (S : World → Prop) (fuel : Nat) (listed : Array Bool) (E : Slots) (w : World) (K : Slots → World → Prop) : Prop where
  run : ∀ a, Env n E a → wpAnyH P .any ops (onNormal n K) S fuel listed a w

variable {S : World → Prop} {fuel : Nat} {listed : Array Bool}

theorem onNormal_panic {c : List PanicEntry} {a a' : Act} {w : World} (h : onNormal n K (.panic c) a w) : onNormal n K (.panic c) a' w := by cases h.1

theorem TH.take {i : Nat} {o : Oper} {v : Value} (hi : ops[i]? = some o) (hg : o.guard = none) (hd : o.dst = some d) (hdn : Nat.blt d n = true) (hv : valued o.op = true)
    (hs : Region.noSelect ops = true) (hf : Region.free .any ops listed i = true) (hr : (Region.ready .any ops listed).contains i = true) (hS : S w)
    (hl : ∀ w, S w → TL P n ops [o] E w (fun E' w' => w' = w ∧ look E' d = some v))
    (h : TH P n ops S fuel (listed.setIfInBounds i true) ((d, v) :: E) w K) : TH P n ops S (fuel + 1) listed E w K := ⟨fun a ha => by
  refine wpAnyH_take (v := v) hi hs hf hr (fun c a w h => onNormal_panic h) (.inl ⟨by simp [Region.wanted, hg], fun w' hw' => run_ofTL hg hd hdn hv (hl w' hw') a ha⟩) hS ?_
  have := h.run _ (ha.put (d := some d) (by simpa [fits] using hdn) v)
  rw [hd]; exact this⟩

theorem TH.one {i : Nat} {o : Oper} (hr : Region.ready .any ops listed = [i]) (hi : ops[i]? = some o) (hg : o.guard = none)
    (h : TL P n ops [o] E w (fun E' w' => S w' ∧ TH P n ops S fuel (listed.setIfInBounds i true) E' w' K)) : TH P n ops S (fuel + 1) listed E w K := ⟨fun a ha => by
  refine wpAnyH_all hr (by simp) fun j hj => ?_
  have hj' : j = i := by simpa using hj
  subst hj'
  have h1 := h.run a ha
  unfold wpList at h1
  unfold wpOp
  simp only [hi]
  rw [if_pos (by simp [Region.wanted, hg])] at h1 ⊢
  rcases h1 with h1 | ⟨_, a', w', he, _⟩
  · left
    unfold Oper.wp at h1 ⊢
    generalize (execOp a.eval o).run P w = r at *
    have fin : ∀ a w, wpList P ops (onNormal n fun E' w' => S w' ∧ TH P n ops S fuel (listed.setIfInBounds j true) E' w' K) [] a w → S w ∧ wpAnyH P .any ops (onNormal n K) S fuel (listed.setIfInBounds j true) a w := by
      intro a w h2
      unfold wpList at h2
      obtain ⟨_, E', hE, h3, h4⟩ := h2
      exact ⟨h3, h4.run a hE⟩
    cases r with
    | ok nx w' =>
      cases nx <;> simp only [Oper.upon] at h1 ⊢ <;> try exact fin _ _ h1
      case enter f args =>
        refine Calls.mono h1 fun e w'' he => ?_
        cases e with
        | returned v => exact fin _ _ he
        | panicked ch => exact absurd he.1 (by simp)
        | outgrown => obtain ⟨a', w3, he⟩ := he; exact absurd he.1 (by simp)
      case row => exact Rows.mono h1 fun _ _ he => fin _ _ he
    | halt x w' => cases x <;> simp only [Oper.upon] at h1 ⊢ <;> first | exact absurd h1.1 (by simp) | exact h1
  · cases he⟩

/-- The same of a guarded operation, its guard met. -/
theorem TH.takeG {i j : Nat} {t : Bool} {dj : Tmp} {op : Op} {v : Value} (hi : ops[i]? = some ⟨some d, op, ty, pos, aft, some (j, t)⟩) (hj : (ops[j]?).bind (·.dst) = some dj) (hb : look E dj = some (.bool t)) (hdj : Nat.blt dj n = true) (hdn : Nat.blt d n = true) (hv : valued op = true)
    (hs : Region.noSelect ops = true) (hf : Region.free .any ops listed i = true) (hr : (Region.ready .any ops listed).contains i = true) (hS : S w)
    (hl : ∀ w, S w → TL P n ops [⟨some d, op, ty, pos, aft, none⟩] E w (fun E' w' => w' = w ∧ look E' d = some v))
    (h : TH P n ops S fuel (listed.setIfInBounds i true) ((d, v) :: E) w K) : TH P n ops S (fuel + 1) listed E w K := ⟨fun a ha => by
  have hy := yielded_known ha hj hb hdj
  exact wpAnyH_take (v := v) hi hs hf hr (fun c a w h => onNormal_panic h) (.inl ⟨by simp [Region.wanted, hy], fun w' hw' => run_ofTL (o := ⟨some d, op, ty, pos, aft, none⟩) rfl rfl hdn hv (hl w' hw') a ha⟩) hS (h.run _ (ha.put (d := some d) (by simpa [fits] using hdn) v))⟩
/-- A guarded operation that is not wanted. -/
theorem TH.drop {i j : Nat} {t u : Bool} {dj : Tmp} {d' : Option Tmp} {op : Op} (hi : ops[i]? = some ⟨d', op, ty, pos, aft, some (j, t)⟩) (hj : (ops[j]?).bind (·.dst) = some dj) (hb : look E dj = some (.bool u)) (htu : (u == t) = false) (hdj : Nat.blt dj n = true) (hd' : fits n d' = true)
    (hs : Region.noSelect ops = true) (hf : Region.free .any ops listed i = true) (hr : (Region.ready .any ops listed).contains i = true) (hS : S w)
    (h : TH P n ops S fuel (listed.setIfInBounds i true) (upd E d' undef) w K) : TH P n ops S (fuel + 1) listed E w K := ⟨fun a ha => by
  have hy := yielded_known ha hj hb hdj
  exact wpAnyH_take (v := undef) hi hs hf hr (fun c a w h => onNormal_panic h) (.inr ⟨by cases u <;> cases t <;> simp_all [Region.wanted], rfl⟩) hS (h.run _ (ha.put hd' undef))⟩
theorem TH.dropU {i j : Nat} {t : Bool} {dj : Tmp} {d' : Option Tmp} {op : Op} (hi : ops[i]? = some ⟨d', op, ty, pos, aft, some (j, t)⟩) (hj : (ops[j]?).bind (·.dst) = some dj) (hb : look E dj = some undef) (hdj : Nat.blt dj n = true) (hd' : fits n d' = true)
    (hs : Region.noSelect ops = true) (hf : Region.free .any ops listed i = true) (hr : (Region.ready .any ops listed).contains i = true) (hS : S w)
    (h : TH P n ops S fuel (listed.setIfInBounds i true) (upd E d' undef) w K) : TH P n ops S (fuel + 1) listed E w K := ⟨fun a ha => by
  have hy := yielded_known ha hj hb hdj
  exact wpAnyH_take (v := undef) hi hs hf hr (fun c a w h => onNormal_panic h) (.inr ⟨by simp [Region.wanted, hy, undef], rfl⟩) hS (h.run _ (ha.put hd' undef))⟩

theorem one_step {i : Nat} {o : Oper} {a : Act} (hi : ops[i]? = some o) (hw : Region.wanted o (yielded ops a.tmps) = true) {K1 : Slots → World → Prop} {K2 : Act → World → Prop} (fin : ∀ a w, onNormal n K1 .normal a w → K2 a w)
    (h1 : o.wp P a w (fun a w => onNormal n K1 .normal a w) (onNormal n K1) ∨ (o.asks P a w ∧ LetsOut (onNormal n K1))) : wpOp P ops (onNormal n K) i K2 a w := by
  unfold wpOp
  simp only [hi]
  rw [if_pos hw]
  rcases h1 with h1 | ⟨_, a', w', he, _⟩
  · left
    unfold Oper.wp at h1 ⊢
    generalize (execOp a.eval o).run P w = r at *
    cases r with
    | ok nx w' =>
      cases nx <;> simp only [Oper.upon] at h1 ⊢ <;> try exact fin _ _ h1
      case enter f args =>
        refine Calls.mono h1 fun e w'' he => ?_
        cases e with
        | returned v => exact fin _ _ he
        | panicked ch => exact absurd he.1 (by simp)
        | outgrown => obtain ⟨a', w3, he⟩ := he; exact absurd he.1 (by simp)
      case row => exact Rows.mono h1 fun _ _ he => fin _ _ he
    | halt x w' => cases x <;> simp only [Oper.upon] at h1 ⊢ <;> first | exact absurd h1.1 (by simp) | exact h1
  · cases he
/-- The one operation that may come up, guarded, its guard met. -/
theorem TH.oneG {i j : Nat} {t : Bool} {dj : Tmp} {d' : Option Tmp} {op : Op} (hr : Region.ready .any ops listed = [i]) (hi : ops[i]? = some ⟨d', op, ty, pos, aft, some (j, t)⟩) (hj : (ops[j]?).bind (·.dst) = some dj) (hb : look E dj = some (.bool t)) (hdj : Nat.blt dj n = true)
    (h : TL P n ops [⟨d', op, ty, pos, aft, none⟩] E w (fun E' w' => S w' ∧ TH P n ops S fuel (listed.setIfInBounds i true) E' w' K)) : TH P n ops S (fuel + 1) listed E w K := ⟨fun a ha => by
  refine wpAnyH_all hr (by simp) fun k hk => ?_
  have hk' : k = i := by simpa using hk
  subst hk'
  have hy := yielded_known ha hj hb hdj
  have h1 := h.run a ha
  unfold wpList at h1
  rw [if_pos (by simp [Region.wanted])] at h1
  refine one_step (K1 := fun E' w' => S w' ∧ TH P n ops S fuel (listed.setIfInBounds k true) E' w' K) hi (by simp [Region.wanted, hy]) (fun a w h2 => ?_) ?_
  · obtain ⟨_, E', hE, h3, h4⟩ := h2
    exact ⟨h3, h4.run a hE⟩
  · exact h1⟩
theorem TH.em {p : Prop} [Decidable p] (h1 : p → TH P n ops S fuel listed ((d, .bool true) :: E) w K) (h2 : ¬ p → TH P n ops S fuel listed ((d, .bool false) :: E) w K) : TH P n ops S fuel listed ((d, .bool (decide p)) :: E) w K := by
  by_cases hp : p
  · rw [decide_eq_true hp]; exact h1 hp
  · rw [decide_eq_false hp]; exact h2 hp
theorem TH.emB {b : Bool} (h1 : b = true → TH P n ops S fuel listed ((d, .bool true) :: E) w K) (h2 : b = false → TH P n ops S fuel listed ((d, .bool false) :: E) w K) : TH P n ops S fuel listed ((d, .bool b) :: E) w K := by
  cases b
  · exact h2 rfl
  · exact h1 rfl

theorem TH.done (hr : Region.ready .any ops listed = []) (h : K E w) : TH P n ops S fuel listed E w K := ⟨fun _ ha => wpAnyH_done hr ⟨rfl, E, ha, h⟩ fuel⟩
theorem TH.yes {p : Prop} [Decidable p] (hp : p) (h : TH P n ops S fuel listed ((d, .bool true) :: E) w K) : TH P n ops S fuel listed ((d, .bool (decide p)) :: E) w K := by rw [decide_eq_true hp]; exact h
theorem TH.no {p : Prop} [Decidable p] (hp : ¬ p) (h : TH P n ops S fuel listed ((d, .bool false) :: E) w K) : TH P n ops S fuel listed ((d, .bool (decide p)) :: E) w K := by rw [decide_eq_false hp]; exact h
theorem TH.top {v v' : Value} (e : v = v') (h : TH P n ops S fuel listed ((d, v') :: E) w K) : TH P n ops S fuel listed ((d, v) :: E) w K := by rw [e]; exact h
theorem TC.regionH {Q : Exit → Slots → World → Prop} {id : Nat} {l : List Oper} (S : World → Prop) (hm : P.follows .mixedOrders = true)
    (h : TH P n l.toArray S l.toArray.size (Array.replicate l.toArray.size false) E w.drew (fun E w => Q .normal E w)) : TC P n (.region id l.toArray true) E w Q := ⟨fun a ha =>
  wp_mono (wp_region_held hm (h.run a ha)) fun e a w ⟨he, E', hE, hk⟩ => by subst he; exact ⟨E', hE, hk⟩⟩
end
end Go.Lane
