/-
  The lane, part D: the laws of the operations that read and write memory.
  Generic in the program.
-/
import Derived.Test.YtkgckmdhlokjmaaDoorLaneC
namespace Go.Lane

/-- A type of one cell, neither struct nor array. -/
def Plain (P : Program) (t : TypeId) : Prop := ∃ dt, P.underlying t = some dt ∧ (match dt with | .struct _ | .array _ _ => false | _ => true) = true
/-- A struct or an array of 'sz' cells. -/
def AggT (P : Program) (t : TypeId) (sz : Nat) : Prop := (∃ dt, P.underlying t = some dt ∧ (match dt with | .struct _ | .array _ _ => true | _ => false) = true) ∧ (P.info? t).map (·.size) = some sz
/-- The type's zero value. -/
def ZeroT (P : Program) (t : TypeId) (z : Value) : Prop := (P.info? t).map (·.zero) = some (some z)
/-- An array of 'len' elements of 'sz' cells. -/
structure ArrT (P : Program) (t : TypeId) (len : Nat) (e : TypeId) (sz : Nat) : Prop where
  under : P.underlying t = some (.array len e)
  size : (P.info? e).map (·.size) = some sz
  many : 1 < len

section
variable {P : Program} {n : Nat} {E : Slots} {w : World} {K : Slots → World → Prop} {ops : Array Oper} {rest : List Oper} {d : Tmp} {t ty : TypeId} {pos : String} {aft : Array Edge} {x y : Operand}

theorem run_isAgg_plain (h : Plain P t) (w : World) : (isAgg t).run P w = .ok false w := by
  obtain ⟨dt, h1, h2⟩ := h
  simp only [isAgg, Sem.run_bind, run_underlying h1, Result.andThen_ok]
  cases dt <;> first | rfl | simp at h2
theorem run_isAgg_agg {sz : Nat} (h : AggT P t sz) (w : World) : (isAgg t).run P w = .ok true w := by
  obtain ⟨⟨dt, h1, h2⟩, _⟩ := h
  simp only [isAgg, Sem.run_bind, run_underlying h1, Result.andThen_ok]
  cases dt <;> first | rfl | simp at h2
theorem run_sizeOf' {sz : Nat} (h : (P.info? t).map (·.size) = some sz) (w : World) : (sizeOf t).run P w = .ok sz w := by
  obtain ⟨i, h1, h2⟩ := Option.map_eq_some_iff.1 h
  simp [run_sizeOf h1, h2]
theorem run_zeroValue {z : Value} (h : ZeroT P t z) (w : World) : (zeroValue t).run P w = .ok z w := by
  obtain ⟨i, h1, h2⟩ := Option.map_eq_some_iff.1 h
  simp [zeroValue, run_typeInfo h1, h2]

/-! ### Addresses -/
theorem TL.indexAddr {e : TypeId} {sz by_ : Nat} {z : Value} {b off l c : Nat} {k : IntKind} {i : Int} (j : Nat) (ht : SliceT P t e sz by_ z) (hx : ev E x = some (.slice (some ⟨b, off, none⟩) l c)) (hy : ev E y = some (.int k i)) (hij : i = (j : Int)) (hj : j < l) (hd : Nat.blt d n = true)
    (h : TL P n ops rest ((d, .pointer (some ⟨b, off + j * sz, none⟩)) :: E) w K) : TL P n ops (⟨some d, .indexAddr t x y, ty, pos, aft, none⟩ :: rest) E w K :=
  TL.val hd _ (fun a ha => by
    obtain ⟨i', hi, _, hsz, _⟩ := ht.info
    subst hij
    have h1 : (0 : Int) ≤ (j : Int) ∧ (j : Int) < (l : Int) := by omega
    simp [execOp, ha.eval hx, ha.eval hy, Instr.indexAt, asIntOf, run_underlying ht.under, h1, run_sizeOf hi, hsz, Addr.add_lit, hj]) h
theorem TL.indexArr {e : TypeId} {len sz : Nat} {b off : Nat} {k : IntKind} {i : Int} (j : Nat) (ht : ArrT P t len e sz) (hx : ev E x = some (.pointer (some ⟨b, off, none⟩))) (hy : ev E y = some (.int k i)) (hij : i = (j : Int)) (hj : j < len) (hd : Nat.blt d n = true)
    (h : TL P n ops rest ((d, .pointer (some ⟨b, off + j * sz, none⟩)) :: E) w K) : TL P n ops (⟨some d, .indexAddr t x y, ty, pos, aft, none⟩ :: rest) E w K :=
  TL.val hd _ (fun a ha => by
    subst hij
    have h1 : (0 : Int) ≤ (j : Int) ∧ (j : Int) < (len : Int) := by omega
    simp [execOp, ha.eval hx, ha.eval hy, Instr.indexAt, asIntOf, run_underlying ht.under, h1, run_sizeOf' ht.size, Addr.add_lit, hj, Instr.sureAddr]) h

/-! ### Loads -/
theorem TL.load {v : Value} {ad : Addr} (ht : Plain P t) (hx : ev E x = some (.pointer (some ad))) (hc : w.cell? ad = some v) (hd : Nat.blt d n = true)
    (h : TL P n ops rest ((d, v) :: E) w K) : TL P n ops (⟨some d, .load t x, ty, pos, aft, none⟩ :: rest) E w K :=
  TL.val hd _ (fun a ha => by simp [execOp, ha.eval hx, Instr.loadAt, Instr.sureAddr, loadVar, run_isAgg_plain ht, hc]) h
theorem run_loadAgg {sz : Nat} {b off : Nat} {cs : List Value} (ht : AggT P t sz) (hl : cs.length = sz) (hc : ∀ j, j < sz → w.cell? ⟨b, off + j, none⟩ = cs[j]?) : (loadVar t ⟨b, off, none⟩).run P w = .ok (.agg cs.toArray) w := by
  have h1 := run_loadCells_list (P := P) (w := w) ⟨b, off, none⟩ cs (fun j v hj => by
    have hlt : j < sz := by rw [← hl]; exact (List.getElem?_eq_some_iff.1 hj).1
    rw [Addr.add_lit, hc j hlt, hj])
  simp only [loadVar, Sem.run_bind, run_isAgg_agg ht, Result.andThen_ok, if_true, run_sizeOf' ht.2, ← hl, h1, Sem.run_pure]
theorem TL.loadAgg {sz : Nat} {b off : Nat} (cs : List Value) (ht : AggT P t sz) (hx : ev E x = some (.pointer (some ⟨b, off, none⟩))) (hl : cs.length = sz) (hc : ∀ j, j < sz → w.cell? ⟨b, off + j, none⟩ = cs[j]?) (hd : Nat.blt d n = true)
    (h : TL P n ops rest ((d, .agg cs.toArray) :: E) w K) : TL P n ops (⟨some d, .load t x, ty, pos, aft, none⟩ :: rest) E w K :=
  TL.val hd _ (fun a ha => by
    simp only [execOp, ha.eval hx, Instr.loadAt, Instr.sureAddr, Sem.run_bind, Sem.run_pure, Result.andThen_ok, run_loadAgg ht hl hc]) h

/-! ### New blocks -/
theorem TL.box {v : Value} (hx : ev E x = some v) (hd : Nat.blt d n = true)
    (h : ∀ w', Has w' w.heap.size v.cells t (0, 0) → Ch [] w w' → w'.heap.size = w.heap.size + 1 → TL P n ops rest ((d, .pointer (some ⟨w.heap.size, 0, none⟩)) :: E) w' K) : TL P n ops (⟨some d, .box t x, ty, pos, aft, none⟩ :: rest) E w K :=
  TL.op rfl (by simpa [fits] using hd) (.pointer (some ⟨w.heap.size, 0, none⟩)) (w.alloc (.cells v.cells t)) (fun a ha => by simp [execOp, ha.eval hx, Instr.box, newVar, newRow]) (h _ (heap_alloc_new w _) (Ch.alloc _ _ _) (by simp))
theorem TL.alloc {z : Value} (hz : ZeroT P t z) (hd : Nat.blt d n = true)
    (h : ∀ w', Has w' w.heap.size z.cells t (0, 0) → Ch [] w w' → w'.heap.size = w.heap.size + 1 → TL P n ops rest ((d, .pointer (some ⟨w.heap.size, 0, none⟩)) :: E) w' K) : TL P n ops (⟨some d, .alloc t, ty, pos, aft, none⟩ :: rest) E w K :=
  TL.op rfl (by simpa [fits] using hd) (.pointer (some ⟨w.heap.size, 0, none⟩)) (w.alloc (.cells z.cells t)) (fun a ha => by simp [execOp, Instr.alloc, run_zeroValue hz, newVar, newRow]) (h _ (heap_alloc_new w _) (Ch.alloc _ _ _) (by simp))

/-! ### Stores -/
/-- 'cs' laid over a row from 'off' on. -/
def spl (cur : Array Value) (off : Nat) (cs : List Value) : Array Value := (cur.toList.take off ++ cs ++ cur.toList.drop (off + cs.length)).toArray
theorem size_spl {cur : Array Value} {off : Nat} {cs : List Value} (h : off + cs.length ≤ cur.size) : (spl cur off cs).size = cur.size := by
  simp only [spl, List.size_toArray, List.length_append, List.length_take, List.length_drop, Array.length_toList]; omega
theorem spl_one {cur : Array Value} {off : Nat} {v : Value} (h : off < cur.size) : spl cur off [v] = cur.setIfInBounds off v := by
  apply Array.toList_inj.1
  simp only [spl, List.length_singleton, Array.toList_setIfInBounds]
  rw [List.set_eq_take_append_cons_drop, if_pos (by simpa using h)]
  simp
theorem spl_all {cur : Array Value} {cs : List Value} (h : cs.length = cur.size) : spl cur 0 cs = cs.toArray := by
  simp [spl, h]
theorem get_spl {cur : Array Value} {off : Nat} {cs : List Value} (h : off + cs.length ≤ cur.size) (i : Nat) : (spl cur off cs)[i]? = if i < off then cur[i]? else if i < off + cs.length then cs[i - off]? else cur[i]? := by
  have hto : ((cur.toList.take off).length) = off := by simp; omega
  simp only [spl, List.getElem?_toArray]
  split
  · rename_i h1
    rw [List.getElem?_append_left (by simp; omega), List.getElem?_append_left (by simp; omega), List.getElem?_take, if_pos h1]; simp
  · rename_i h1
    split
    · rename_i h2
      rw [List.getElem?_append_left (by simp; omega), List.getElem?_append_right (by omega), hto]
    · rename_i h2
      rw [List.getElem?_append_right (by simp; omega), List.getElem?_drop]
      simp only [List.length_append, hto, Array.getElem?_toList]
      congr 1
      omega

theorem run_storeCells_spl (g : Nat) (t : TypeId) (fr : Nat × Nat) (off : Nat) (cs : List Value) (cur : Array Value) (w : World) (hg : Has w g cur t fr) (hfit : off + cs.length ≤ cur.size) (h1 : ∀ v ∈ cs, v.oneCell' = true)
    (hfr : ∀ i, off ≤ i → i < off + cs.length → ¬ (fr.1 ≤ i ∧ i < fr.2)) :
    (storeCells ⟨g, off, none⟩ cs).run P w = .ok () (w.setRow g (spl cur off cs)) := by
  have key : ∀ (vs : List Value) (i : Nat) (cur : Array Value) (w : World), Has w g cur t fr → off + i + vs.length ≤ cur.size → (∀ v ∈ vs, v.oneCell' = true) → (∀ j, off + i ≤ j → j < off + i + vs.length → ¬ (fr.1 ≤ j ∧ j < fr.2)) →
      (storeCells ⟨g, off, none⟩ vs i).run P w = .ok () (w.setRow g (spl cur (off + i) vs)) := by
    intro vs
    induction vs with
    | nil =>
      intro i cur w hg _ _ _
      have e : spl cur (off + i) [] = cur := by apply Array.toList_inj.1; simp [spl]
      rw [e, setRow_self w g cur t fr hg]; simp [storeCells]
    | cons v r ih =>
      intro i cur w hg hfit h1 hfr
      simp only [List.length_cons] at hfit hfr
      have hv := h1 v (by simp)
      have hlt : off + i < cur.size := by omega
      have hfz : w.frozen? ⟨g, off + i, none⟩ = false := by
        unfold World.frozen?
        rw [show w.heap[(⟨g, off + i, none⟩ : Addr).block]? = some (.cells cur t fr) from hg]
        have := hfr (off + i) (Nat.le_refl _) (by omega)
        obtain ⟨lo, hi⟩ := fr
        simp only at this ⊢
        simpa [Bool.and_eq_false_iff, Nat.not_le, Nat.not_lt] using this
      have hset : w.setCell ⟨g, off + i, none⟩ v = w.setRow g (cur.setIfInBounds (off + i) v) := by
        unfold World.setCell World.setRow
        congr 1
        apply Array.ext (by simp)
        intro j h1 h2
        simp only [Array.getElem_modify]
        split
        · rename_i hj
          subst hj
          have : w.heap[g]'(by simpa using h1) = .cells cur t fr := (Array.getElem?_eq_some_iff.1 hg).2
          simp [this]
        · rfl
      have hg' : Has (w.setRow g (cur.setIfInBounds (off + i) v)) g (cur.setIfInBounds (off + i) v) t fr := setRow_heap w g cur _ t fr hg
      simp only [storeCells, Sem.run_bind, Addr.add_lit, run_store P w _ v .plain hv, hg.cell, Array.getElem?_eq_getElem hlt, hfz, Bool.false_eq_true, if_false, Result.andThen_ok, hset]
      rw [ih (i + 1) _ _ hg' (by simp; omega) (fun u hu => h1 u (by simp [hu])) (fun j a b => hfr j (by omega) (by omega))]
      congr 1
      have hss : ∀ (a b : Array Value), (w.setRow g a).setRow g b = w.setRow g b := by
        intro a b
        unfold World.setRow
        congr 1
        apply Array.ext (by simp)
        intro j h1 h2
        simp only [Array.getElem_modify]
        split
        · rename_i hj
          subst hj
          cases w.heap[g]'(by simpa using h1) <;> rfl
        · rfl
      rw [hss]
      congr 1
      apply Array.toList_inj.1
      simp only [spl, Array.toList_setIfInBounds, List.length_cons]
      have hl : off + i < cur.toList.length := by simpa using hlt
      rw [List.set_eq_take_append_cons_drop, if_pos hl]
      have ht : (cur.toList.take (off + i)).length = off + i := by simp; omega
      rw [show off + (i + 1) = (off + i) + 1 from by omega]
      rw [List.take_append, ht, List.take_of_length_le (by omega : (cur.toList.take (off + i)).length ≤ off + i + 1)]
      rw [show off + i + 1 - (off + i) = 1 from by omega]
      rw [List.drop_append, ht, List.drop_of_length_le (by omega : (cur.toList.take (off + i)).length ≤ off + i + 1 + r.length)]
      rw [show off + i + 1 + r.length - (off + i) = r.length + 1 from by omega]
      simp only [List.take_succ_cons, List.take_zero, List.drop_succ_cons, List.drop_drop, List.nil_append, List.append_assoc, List.cons_append]
      congr 4
      omega
  have := key cs 0 cur w hg (by omega) h1 (fun j a b => hfr j (by omega) (by omega))
  simpa using this

/-- A store of a value, of one cell or of many, into a row of which no cell there is frozen. -/
theorem TL.store {v : Value} {b off sz : Nat} {cur : Array Value} {tb : TypeId} {fr : Nat × Nat} (hsz : (P.info? t).map (·.size) = some sz) (hx : ev E x = some (.pointer (some ⟨b, off, none⟩))) (hy : ev E y = some v) (hv : v.cells.size = sz) (hg : Has w b cur tb fr) (hfit : off + sz ≤ cur.size)
    (h1 : ∀ u ∈ v.cells.toList, u.oneCell' = true) (hfr : fr = (0, 0) ∨ ∀ i, off ≤ i → i < off + sz → ¬ (fr.1 ≤ i ∧ i < fr.2))
    (h : ∀ w', Has w' b (spl cur off v.cells.toList) tb fr → Ch [b] w w' → w'.heap.size = w.heap.size → TL P n ops rest E w' K) : TL P n ops (⟨none, .store t x y, ty, pos, aft, none⟩ :: rest) E w K := by
  have hl : v.cells.toList.length = sz := by simpa using hv
  have hst := run_storeCells_spl (P := P) b tb fr off v.cells.toList cur w hg (by omega) h1 (by
    intro i g1 g2 g3
    rcases hfr with rfl | hfr
    · simp at g3
    · exact hfr i g1 (by omega) g3)
  refine TL.opSkip rfl rfl (w.setRow b (spl cur off v.cells.toList)) (fun a ha => ?_) (h _ (setRow_heap w b cur _ tb fr hg) ⟨rfl, rfl, rfl, by simp [World.setRow], fun k _ hk => setRow_other w b k _ (by simpa using hk)⟩ (by simp [World.setRow]))
  simp only [execOp, ha.eval hx, ha.eval hy, Instr.storeAt, Instr.sureAddr, storeVar, Sem.run_bind, Sem.run_pure, Result.andThen_ok, run_sizeOf' hsz, hv, ne_eq, not_true_eq_false, if_false, hst]

theorem cells_int (k : IntKind) (a : Int) : (Value.int k a).cells = #[.int k a] := rfl
theorem cells_bool (a : Bool) : (Value.bool a).cells = #[.bool a] := rfl
theorem cells_string (a : ByteArray) : (Value.string a).cells = #[.string a] := rfl
theorem cells_pointer (a : Option Addr) : (Value.pointer a).cells = #[.pointer a] := rfl
theorem cells_slice (a : Option Addr) (l c : Nat) : (Value.slice a l c).cells = #[.slice a l c] := rfl
theorem cells_agg (a : Array Value) : (Value.agg a).cells = a := rfl

/-! ### Parts of slices -/
theorem run_sliceRd {e : TypeId} {sz by_ : Nat} {z : Value} {v : Value} {l : Nat} {cs : List Value} {lo hi : Option Value} {i j : Nat} (ht : SliceT P t e sz by_ z) (hv : Rd w v sz l cs)
    (h1 : (lo = none ∧ i = 0) ∨ ∃ k, lo = some (.int k (i : Int))) (h2 : (hi = none ∧ j = l) ∨ ∃ k, hi = some (.int k (j : Int))) (hij : i ≤ j) (hj : j ≤ l) :
    ∃ v', (Instr.sliceAt t v lo hi none).run P w = .ok v' w ∧ Rd w v' sz (j - i) ((cs.drop (i * sz)).take ((j - i) * sz)) ∧ v'.ownBlock = v.ownBlock ∧ (∀ ad c, v = .slice ad l c → ∃ ad', v' = .slice ad' (j - i) (c - i)) := by
  obtain ⟨i', hi', _, hsz, _⟩ := ht.info
  rcases hv with ⟨⟨ad0, rfl⟩, rfl, rfl⟩ | ⟨b, off, c, cur, tb, fr, rfl, hh, g1, g2, g3, rfl⟩
  · have hi0 : i = 0 := by omega
    have hj0 : j = 0 := by omega
    subst hi0; subst hj0
    refine ⟨.slice ad0 0 0, ?_, .inl ⟨⟨ad0, rfl⟩, rfl, by simp⟩, rfl, fun ad c h => ⟨ad0, by cases h; rfl⟩⟩
    rcases h1 with ⟨rfl, _⟩ | ⟨k, rfl⟩ <;> rcases h2 with ⟨rfl, _⟩ | ⟨k', rfl⟩ <;>
      simp [Instr.sliceAt, Instr.slice, run_underlying ht.under, Instr.sliceBounds, Instr.sliceBound, asIntOf, run_sizeOf hi']
  · have hr : Rd w (.slice (some ⟨b, off, none⟩) l c) sz l ((cur.toList.drop off).take (l * sz)) := .inr ⟨b, off, c, cur, tb, fr, rfl, hh, g1, g2, g3, rfl⟩
    refine ⟨.slice (some ⟨b, if c = i then off else off + i * sz, none⟩) (j - i) (c - i), ?_, hr.sub hij hj, rfl, fun ad c' h => by cases h; exact ⟨_, rfl⟩⟩
    have hjc : j ≤ c := by omega
    have hic : i ≤ c := by omega
    have ea : (if c = i then some (⟨b, off, none⟩ : Addr) else (some (⟨b, off, none⟩ : Addr)).map (·.add (i * sz))) = some ⟨b, if c = i then off else off + i * sz, none⟩ := by
      split <;> simp [Addr.add_lit]
    rcases h1 with ⟨rfl, rfl⟩ | ⟨k, rfl⟩ <;> rcases h2 with ⟨rfl, rfl⟩ | ⟨k', rfl⟩ <;>
      simp [Instr.sliceAt, Instr.slice, run_underlying ht.under, Instr.sliceBounds, Instr.sliceBound, asIntOf, run_sizeOf hi', hij, hjc, hsz, Addr.add_lit] <;> split <;> rfl

theorem TL.sliceRd {e : TypeId} {sz by_ : Nat} {z : Value} {v : Value} {l : Nat} {cs : List Value} {lo hi : Option Operand} (i j : Nat) (ht : SliceT P t e sz by_ z) (hx : ev E x = some v) (hv : Rd w v sz l cs)
    (h1 : (lo = none ∧ i = 0) ∨ ∃ o k, lo = some o ∧ ev E o = some (.int k (i : Int))) (h2 : (hi = none ∧ j = l) ∨ ∃ o k, hi = some o ∧ ev E o = some (.int k (j : Int))) (hij : i ≤ j) (hj : j ≤ l) (hd : Nat.blt d n = true)
    (h : ∀ v', Rd w v' sz (j - i) ((cs.drop (i * sz)).take ((j - i) * sz)) → v'.ownBlock = v.ownBlock → (∀ ad c, v = .slice ad l c → ∃ ad', v' = .slice ad' (j - i) (c - i)) → TL P n ops rest ((d, v') :: E) w K) : TL P n ops (⟨some d, .slice t x lo hi none, ty, pos, aft, none⟩ :: rest) E w K := by
  obtain ⟨v', hr, g1, g2, g3⟩ : ∃ v', (∀ a, Env n E a → (Instr.sliceAt t v (lo.map a.eval) (hi.map a.eval) none).run P w = .ok v' w) ∧ Rd w v' sz (j - i) ((cs.drop (i * sz)).take ((j - i) * sz)) ∧ v'.ownBlock = v.ownBlock ∧ (∀ ad c, v = .slice ad l c → ∃ ad', v' = .slice ad' (j - i) (c - i)) := by
    obtain ⟨lo', hlo, h1'⟩ : ∃ lo', (∀ a, Env n E a → lo.map a.eval = lo') ∧ ((lo' = none ∧ i = 0) ∨ ∃ k, lo' = some (.int k (i : Int))) := by
      rcases h1 with ⟨rfl, h⟩ | ⟨o, k, rfl, ho⟩
      · exact ⟨none, fun _ _ => rfl, .inl ⟨rfl, h⟩⟩
      · exact ⟨some (.int k i), fun a ha => by simp [ha.eval ho], .inr ⟨k, rfl⟩⟩
    obtain ⟨hi', hhi, h2'⟩ : ∃ hi', (∀ a, Env n E a → hi.map a.eval = hi') ∧ ((hi' = none ∧ j = l) ∨ ∃ k, hi' = some (.int k (j : Int))) := by
      rcases h2 with ⟨rfl, h⟩ | ⟨o, k, rfl, ho⟩
      · exact ⟨none, fun _ _ => rfl, .inl ⟨rfl, h⟩⟩
      · exact ⟨some (.int k j), fun a ha => by simp [ha.eval ho], .inr ⟨k, rfl⟩⟩
    obtain ⟨v', hr, g⟩ := run_sliceRd (P := P) ht hv h1' h2' hij hj
    exact ⟨v', fun a ha => by rw [hlo a ha, hhi a ha]; exact hr, g⟩
  exact TL.val hd v' (fun a ha => by simp only [execOp, ha.eval hx, Option.map_none, Sem.run_bind, hr a ha, Result.andThen_ok, Sem.run_pure]) (h v' g1 g2 g3)

/-- x[:] of an array that lies in memory. -/
theorem TL.sliceArr {e : TypeId} {len sz : Nat} {b off : Nat} (ht : ArrT P t len e sz) (hx : ev E x = some (.pointer (some ⟨b, off, none⟩))) (hd : Nat.blt d n = true)
    (h : TL P n ops rest ((d, .slice (some ⟨b, off, none⟩) len len) :: E) w K) : TL P n ops (⟨some d, .slice t x none none none, ty, pos, aft, none⟩ :: rest) E w K :=
  TL.val hd _ (fun a ha => by
    have hm := ht.many
    simp [execOp, ha.eval hx, Instr.sliceAt, run_underlying ht.under, Instr.sliceBounds, Instr.sureAddr, run_sizeOf' ht.size, Addr.add_zero']) h

/-! ### Slices made -/
def enumFrom : Nat → List Operand → List (Nat × Operand)
  | _, [] => []
  | k, x :: r => (k, x) :: enumFrom (k + 1) r
def enumVals : Nat → List Value → List (Nat × Value)
  | _, [] => []
  | k, x :: r => (k, x) :: enumVals (k + 1) r
theorem map_enum {a : Act} : ∀ (xs : List Operand) (k : Nat), (enumFrom k xs).map (fun p => (p.1, a.eval p.2)) = enumVals k (xs.map a.eval)
  | [], _ => rfl
  | x :: r, k => by simp [enumFrom, enumVals, map_enum r (k + 1)]

theorem foldl_set : ∀ (cs : List Value) (acc : Array Value) (o k : Nat), o + k + cs.length ≤ acc.size →
    (cs.zipIdx k).foldl (fun a p => a.setIfInBounds (o + p.2) p.1) acc = spl acc (o + k) cs
  | [], acc, o, k, _ => by
    apply Array.toList_inj.1; simp [spl]
  | c :: r, acc, o, k, h => by
    simp only [List.length_cons] at h
    simp only [List.zipIdx_cons, List.foldl_cons]
    rw [foldl_set r _ o (k + 1) (by simp; omega)]
    apply Array.ext_getElem?
    intro i
    rw [get_spl (by simp; omega), get_spl (by simp; omega)]
    simp only [List.length_cons, Array.getElem?_setIfInBounds]
    by_cases h1 : i < o + k
    · rw [if_pos (by omega), if_pos h1, if_neg (by omega)]
    · by_cases h2 : i = o + k
      · subst h2
        simp only [show o + k < o + (k + 1) from by omega, if_true, show ¬ (o + k < o + k) from by omega, if_false, show o + k < o + k + (r.length + 1) from by omega, show o + k < acc.size from by omega, Nat.sub_self, List.getElem?_cons_zero]
      · rw [if_neg (by omega), if_neg h1]
        split
        · rename_i h3
          rw [if_pos (by omega)]
          rw [show i - (o + k) = (i - (o + (k + 1))) + 1 from by omega, List.getElem?_cons_succ]
        · rw [if_neg (by omega), if_neg (by omega)]

theorem fill_all (sz : Nat) : ∀ (vs : List Value) (k : Nat) (acc : Array Value), (∀ v ∈ vs, v.cells.size = sz) → acc.size = (k + vs.length) * sz →
    Instr.fill (fun i => some (i * sz, sz)) acc (enumVals k vs) = some (acc.toList.take (k * sz) ++ vs.flatMap fun v => v.cells.toList).toArray
  | [], k, acc, _, hs => by
    simp only [enumVals, Instr.fill, List.flatMap_nil, List.append_nil]
    rw [List.take_of_length_le (by simp [hs])]
  | v :: r, k, acc, h1, hs => by
    have hv := h1 v (by simp)
    simp only [List.length_cons] at hs
    have hle : k * sz + sz ≤ acc.size := by
      rw [hs]
      have := Nat.mul_le_mul_right sz (show k + 1 ≤ k + (r.length + 1) by omega)
      rw [Nat.add_mul] at this; omega
    simp only [enumVals, Instr.fill, hv, ne_eq, not_true_eq_false, decide_false, Bool.false_or, decide_eq_true_eq]
    rw [if_neg (by omega)]
    have hfold : v.cells.zipIdx.foldl (fun cs x => match x with | (c, j) => cs.setIfInBounds (k * sz + j) c) acc = spl acc (k * sz) v.cells.toList := by
      rw [← Array.foldl_toList]
      have := foldl_set v.cells.toList acc (k * sz) 0 (by simp [hv]; omega)
      simpa [Array.toList_zipIdx] using this
    rw [hfold, fill_all sz r (k + 1) _ (fun u hu => h1 u (by simp [hu])) (by rw [size_spl (by simp [hv]; omega), hs]; congr 1; omega)]
    congr 2
    have ht : (acc.toList.take (k * sz)).length = k * sz := by simp; omega
    simp only [spl, List.flatMap_cons]
    rw [show (k + 1) * sz = k * sz + sz from by rw [Nat.add_mul]; omega]
    rw [← List.append_assoc]
    congr 1
    rw [List.take_append_of_le_length (by simp [ht, hv])]
    rw [List.take_of_length_le (by simp [hv]; omega)]

/-- The cells of values, one behind the other. -/
def flat (vs : List Value) : List Value := vs.flatMap fun v => v.cells.toList
theorem flat_nil : flat [] = [] := rfl
theorem flat_cons (v : Value) (r : List Value) : flat (v :: r) = v.cells.toList ++ flat r := by simp [flat]
theorem TL.buildSlice {e : TypeId} {sz by_ : Nat} {z : Value} {parts : Array (Nat × Operand)} {m : Nat} (xs : List Operand) {vs : List Value} (ht : SliceT P t e sz by_ z) (hp : parts = (enumFrom 0 xs).toArray) (hxs : evs E xs = some vs) (hm : vs.length = m) (hm' : m * sz ≤ 16777216) (hv : ∀ v ∈ vs, v.cells.size = sz) (hd : Nat.blt d n = true)
    (h : ∀ w', Has w' w.heap.size (flat vs).toArray e (0, 0) → Ch [] w w' → w'.heap.size = w.heap.size + 1 → TL P n ops rest ((d, .slice (some ⟨w.heap.size, 0, none⟩) m m) :: E) w' K) : TL P n ops (⟨some d, .buildSlice t m parts, ty, pos, aft, none⟩ :: rest) E w K := by
  obtain ⟨i', hi', hz, hsz, _⟩ := ht.info
  refine TL.op rfl (by simpa [fits] using hd) (.slice (some ⟨w.heap.size, 0, none⟩) m m) (w.alloc (.cells (flat vs).toArray e)) (fun a ha => ?_) (h _ (heap_alloc_new w _) (Ch.alloc _ _ _) (by simp))
  have e1 : (parts.map fun p => (p.1, a.eval p.2)).toList = enumVals 0 vs := by
    rw [hp, ← ha.evals hxs, ← map_enum]; simp
  have hz0 : ∀ (zs : Array Value), ((Array.range (m * sz)).map (fun i => zs[i % zs.size]!)).size = (0 + vs.length) * sz := by intro zs; simp [hm]
  have hf : ∀ (zs : Array Value), Instr.fill (fun i => some (i * sz, sz)) ((Array.range (m * sz)).map (fun i => zs[i % zs.size]!)) (enumVals 0 vs) = some (flat vs).toArray := by
    intro zs
    rw [fill_all sz vs 0 _ hv (hz0 zs)]; simp [flat]
  have hle : ¬ 16777216 < m * sz := by omega
  have hmk : (Instr.buildSlice t m (parts.map fun p => (p.1, a.eval p.2))).run P w = .ok (.slice (some ⟨w.heap.size, 0, none⟩) m m) (w.alloc (.cells (flat vs).toArray e)) := by
    simp only [Instr.buildSlice, Sem.run_bind, run_underlying ht.under, Result.andThen_ok, run_sizeOf hi', hsz, e1]
    rw [if_neg (by simpa using hle)]
    by_cases h0 : m * sz = 0
    · simp only [h0, if_true]
      have := hf #[]
      rw [h0] at this
      simp only [this, Sem.run_bind, newRow, run_newObj, Result.andThen_ok, Sem.run_pure, World.alloc_eq]
    · simp only [h0, if_false, Sem.run_bind, zeroValue, run_typeInfo hi', hz, Sem.run_pure, Result.andThen_ok, hf, newRow, run_newObj, World.alloc_eq]
  simp only [execOp, Sem.run_bind, Sem.run_pure, hmk, Result.andThen_ok]

/-- A new row just made is owned. -/
theorem Own.ofHas {w : World} {base b : Nat} {e : TypeId} {sz m : Nat} {cs : List Value} (h : Has w b cs.toArray e (0, 0)) (hb : base ≤ b) (hl : cs.length = m * sz) (hm : m ≤ maxLen) : Own w base e sz (.slice (some ⟨b, 0, none⟩) m m) m cs :=
  ⟨hl, .inr ⟨b, m, cs.toArray, rfl, hb, h, Nat.le_refl _, hm, by simpa using hl, by simp [← hl]⟩⟩
theorem Rd.ofHas {w : World} {b off : Nat} {e : TypeId} {fr : Nat × Nat} {sz m : Nat} {cur : Array Value} {cs : List Value} (h : Has w b cur e fr) (hm : m ≤ maxLen) (hfit : off + m * sz ≤ cur.size) (hcs : cs = (cur.toList.drop off).take (m * sz)) : Rd w (.slice (some ⟨b, off, none⟩) m m) sz m cs :=
  .inr ⟨b, off, m, cur, e, fr, rfl, h, Nat.le_refl _, hm, hfit, hcs⟩

/-! ### Bytes and strings -/
theorem TL.bytesToStr {s e : TypeId} {v : Value} {l : List UInt8} (hs : P.underlying s = some (.slice e)) (he : P.underlying e = some (.int .u8)) (ht : P.underlying t = some .string) (hx : ev E x = some v) (hv : Rd w v 1 l.length (l.map u8)) (hd : Nat.blt d n = true)
    (h : TL P n ops rest ((d, str l) :: E) w K) : TL P n ops (⟨some d, .convert s t x, ty, pos, aft, none⟩ :: rest) E w K := by
  refine TL.val hd _ (fun a ha => ?_) h
  have key : (Conv.bytesToString v).run P w = .ok (str l) w := by
    rcases hv with ⟨⟨ad, rfl⟩, h0, _⟩ | ⟨b, off, c, cur, tb, fr, rfl, hh, g1, g2, g3, hcs⟩
    · have : l = [] := List.eq_nil_of_length_eq_zero h0
      subst this
      cases ad with
      | none => simp [Conv.bytesToString]; rfl
      | some a0 =>
        have hr := run_bytesToString (P := P) w a0 0 0 [] (by simp [loadCells, loadCellsFrom])
        rw [hr]; rfl
    · have hl := run_loadCells_list (P := P) w ⟨b, off, none⟩ ((l.map fun b => (b.toNat : Int)).map (Value.int .u8)) (fun j v hj => by
        rw [Addr.add_lit, hh.cell]
        have hj' : (l.map u8)[j]? = some v := by simpa [Function.comp_def] using hj
        rw [hcs, List.getElem?_take] at hj'
        split at hj'
        · simpa using hj'
        · cases hj')
      have hr := run_bytesToString (P := P) w ⟨b, off, none⟩ l.length c (l.map fun b => (b.toNat : Int)) (by simpa using hl)
      rw [hr, foldl_push_bytes]
      have e1 : (l.map fun b => (b.toNat : Int)).map (fun n => UInt8.ofNat n.toNat) = l := by
        rw [List.map_map]; conv => rhs; rw [← List.map_id l]
        apply List.map_congr_left; intro b _; simp
      rw [e1, show ByteArray.empty.data ++ l.toArray = l.toArray from by show #[] ++ l.toArray = _; simp]
  obtain ⟨ad, c, rfl, _⟩ := hv.shape
  simp only [execOp, ha.eval hx, Sem.run_bind, run_convert_bytes_string w s t e _ _ _ hs he ht, key, Result.andThen_ok, Sem.run_pure]

/-- []byte(s): new memory, the byte behind its end marked. -/
theorem TL.strToBytes {s e : TypeId} {l : List UInt8} (hs : P.underlying s = some .string) (ht : P.underlying t = some (.slice e)) (he : P.underlying e = some (.int .u8)) (hx : ev E x = some (str l)) (hl : l.length ≤ maxLen) (hd : Nat.blt d n = true)
    (h : ∀ w' c cur fr, Has w' w.heap.size cur e fr → l.length ≤ c → c ≤ maxLen → cur.size = c → cur.toList.take l.length = l.map u8 → fr = (c, c + 1) → Ch [] w w' → w'.heap.size = w.heap.size + 1 →
      TL P n ops rest ((d, .slice (some ⟨w.heap.size, 0, none⟩) l.length c) :: E) w' K) : TL P n ops (⟨some d, .convert s t x, ty, pos, aft, none⟩ :: rest) E w K := by
  have hge := grownCap_ge w l.length 0 e
  have hcm := grownCap_le_maxLen w l.length 0 e hl
  generalize hcap : grownCap w l.length 0 e = c at hge hcm
  have hcut : (Question.appendCap l.length 0 e).cut (w.tape w.drawn (.appendCap l.length 0 e)) = c := hcap
  let cur : Array Value := (l.map u8).toArray ++ Array.replicate (c - l.length) (.int .u8 0)
  have hcs : cur.size = c := by simp [cur]; omega
  let w1 : World := w.drew.alloc (.cells cur e)
  have hw1 : Has w1 w.heap.size cur e (0, 0) := heap_alloc_new w.drew _
  let w2 : World := w1.freeze ⟨w.heap.size, cur.size, none⟩ 1
  have hfz : ∀ k, w2.heap[k]? = if k = w.heap.size then some (.cells cur e (c, c + 1)) else w1.heap[k]? := by
    intro k
    simp only [w2, World.freeze, Nat.one_ne_zero, if_false, Array.getElem?_modify]
    by_cases hk : w.heap.size = k
    · subst hk
      have : w1.heap[w.heap.size]? = some (.cells cur e (0, 0)) := hw1
      simp [this, hcs]
    · rw [if_neg hk, if_neg (fun e => hk e.symm)]
  have hsz : w2.heap.size = w.heap.size + 1 := by simp [w2, World.freeze, w1]
  have hch : Ch [] w w2 := ⟨rfl, rfl, rfl, by omega, fun k hk _ => by
    rw [hfz k, if_neg (by omega)]
    exact (Ch.alloc [] w.drew _).block k hk (by simp)⟩
  refine TL.op rfl (by simpa [fits] using hd) (.slice (some ⟨w.heap.size, 0, none⟩) l.length c) w2 (fun a ha => ?_)
    (h w2 c cur (c, c + 1) (by show w2.heap[w.heap.size]? = _; rw [hfz, if_pos rfl]) hge hcm hcs (by simp [cur]) rfl hch hsz)
  have hmap : l.toArray.map (fun b => Value.int .u8 (b.toNat : Int)) = (l.map u8).toArray := by simp
  simp only [execOp, ha.eval hx, convert, Sem.run_bind, run_underlying hs, run_underlying ht, run_underlying he, Result.andThen_ok, Conv.stringToBytes, size_str, run_choose, Question.forced, Bool.false_eq_true, if_false, hcut, newRow, run_newObj, Sem.run_pure, markStringish, run_shape, hmap]
  have e2 : w1.shape? w.heap.size = some (e, cur.size) := by
    unfold World.shape?
    rw [show w1.heap[w.heap.size]? = some (.cells cur e (0, 0)) from hw1]
  show (((Sem.run P (match w1.shape? w.heap.size with | some (fst, n) => Go.freeze { block := w.heap.size, off := n } 1 | x => pure ()) w1).andThen _).andThen _) = _
  rw [e2]
  rfl
end
end Go.Lane
