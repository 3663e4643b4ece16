/-
  The lane, part K: copy, arrays compared, slices of slices.
  Generic in the program.
-/
import Derived.Test.YtfihfapgbfjnnaaLaneJ
import Derived.Laws.CopyRow
import Derived.Laws.IdiomCopy
import Derived.ChangeKeysEq
import Derived.Laws.Tables
namespace Go.Lane
section
variable {P : Program} {n : Nat} {E : Slots} {w : World} {K : Slots → World → Prop} {ops : Array Oper} {rest : List Oper} {d : Option Tmp} {t u ty : TypeId} {pos : String} {aft : Array Edge} {x y : Operand}

/-- copy(x, y) of one-cell elements, where all of 'y' fits. -/
theorem TL.copy1 {e g off dl dc sl : Nat} {sv : Value} {cs : List Value} {cur : Array Value} {tb : TypeId} (hu : P.underlying t = some (.slice e)) (hs : (P.info? e).map (·.size) = some 1) (hx : ev E x = some (.slice (some ⟨g, off, none⟩) dl dc)) (hy : ev E y = some sv)
    (hd : fits n d = true) (hsv : Rd w sv 1 sl cs) (hle : sl ≤ dl) (hg : Has w g cur tb (0, 0)) (hfit : off + sl ≤ cur.size) (h1 : ∀ v ∈ cs, v.oneCell' = true)
    (h : ∀ w', Has w' g (spl cur off cs) tb (0, 0) → Ch [g] w w' → w'.heap.size = w.heap.size → TL P n ops rest (upd E d (.int .i64 (sl : Int))) w' K) :
    TL P n ops (⟨d, .call { callee := .builtin .copy, args := #[x, y], argTypes := #[t, u] }, ty, pos, aft, none⟩ :: rest) E w K := by
  have hl := hsv.len
  rw [Nat.mul_one] at hl
  rcases hsv with ⟨⟨ad, rfl⟩, rfl, rfl⟩ | ⟨b, o, c, cur', t', fr, rfl, hh, g1, g2, g3, hcs⟩
  · have hrun := run_copy_none (P := P) w t u ty e (some ⟨g, off, none⟩) ad dl dc 0 0 hu hs (by simp)
    refine TL.op rfl hd (.int .i64 (0 : Int)) w (fun a ha => ?_) (h w (by simpa [spl] using hg) (Ch.refl _ _) rfl)
    simp only [execOp, resolve, invoke, builtin, Sem.run_bind, Sem.run_pure, Result.andThen_ok, List.map_toArray, List.map_cons, List.map_nil, ha.eval hx, ha.eval hy, hrun]
    rfl
  · have hrun := run_copy_row (P := P) w t u ty e g off dl dc ⟨b, o, none⟩ sl c cur tb cs hu hs hg (by rw [hl]; exact (Nat.min_eq_left hle).symm) (fun j v hj => by
      rw [Addr.add_lit, hh.cell]
      rw [hcs, List.getElem?_take] at hj
      split at hj
      · simpa using hj
      · cases hj) (by omega) h1
    refine TL.op rfl hd (.int .i64 (sl : Int)) (w.setRow g (spl cur off cs)) (fun a ha => ?_) (h _ (setRow_heap w g cur _ tb _ hg) ⟨rfl, rfl, rfl, by simp [World.setRow], fun k _ hk => setRow_other w g k _ (by simpa using hk)⟩ (by simp [World.setRow]))
    simp only [execOp, resolve, invoke, builtin, Sem.run_bind, Sem.run_pure, Result.andThen_ok, List.map_toArray, List.map_cons, List.map_nil, ha.eval hx, ha.eval hy, hrun]
    rw [hl]; simp only [spl, hl, goInt]

/-- []byte(s): a new reading. -/
theorem TL.strRd {dd : Tmp} {s e : TypeId} {l : List UInt8} (hs : P.underlying s = some .string) (ht : P.underlying t = some (.slice e)) (he : P.underlying e = some (.int .u8)) (hx : ev E x = some (str l)) (hl : l.length ≤ maxLen) (hd : Nat.blt dd n = true)
    (h : ∀ w' v, Rd w' v 1 l.length (l.map u8) → (∃ ad c, v = .slice ad l.length c) → v.ownBlock = some w.heap.size → Ch [] w w' → w'.heap.size = w.heap.size + 1 → TL P n ops rest ((dd, v) :: E) w' K) : TL P n ops (⟨some dd, .convert s t x, ty, pos, aft, none⟩ :: rest) E w K :=
  TL.strToBytes hs ht he hx hl hd fun w' c cur fr hb h1 h2 h3 h4 _ hc hz =>
    h w' _ (.inr ⟨_, 0, c, cur, e, fr, rfl, hb, h1, h2, by omega, by simp [h4]⟩) ⟨_, _, rfl⟩ rfl hc hz

/-- Two arrays of plain elements compared. -/
theorem run_equalIn_arr {α : Type} [DecidableEq α] (f : α → Value) {dep : Nat} {e : TypeId} {m : Nat} (hu : P.underlying t = some (.array m e)) (hi : (P.info? e).isSome = true) (hc : P.cellsOf e = 1) (hp : Plain P e)
    (heq : ∀ a b, (Op.equalIn (dep + 1) e (f a) (f b)).run P w = .ok (decide (a = b)) w) (xs ys : List α) (hx : xs.length = m) (hy : ys.length = m) :
    (Op.equalIn (dep + 2) t (.agg (xs.map f).toArray) (.agg (ys.map f).toArray)).run P w = .ok (decide (xs = ys)) w := by
  obtain ⟨i, hi⟩ := Option.isSome_iff_exists.1 hi
  rw [run_equalIn_array w (dep + 1) _ _ hu hi, hc]
  have key : ∀ (k j : Nat), j + k = m → (Op.eqItems (dep + 1) e 1 (xs.map f).toArray (ys.map f).toArray (List.range' j k)).run P w = .ok (decide (xs.drop j = ys.drop j)) w := by
    intro k
    induction k with
    | zero =>
      intro j hj
      rw [List.drop_eq_nil_of_le (by omega), List.drop_eq_nil_of_le (by omega)]
      simp [Op.eqItems]
    | succ k ih =>
      intro j hj
      have hjx : j < xs.length := by omega
      have hjy : j < ys.length := by omega
      have h1 : (part e (xs.map f).toArray (j * 1)).run P w = .ok (f xs[j]) w := by simp [part, run_isAgg_plain hp, hjx]
      have h2 : (part e (ys.map f).toArray (j * 1)).run P w = .ok (f ys[j]) w := by simp [part, run_isAgg_plain hp, hjy]
      rw [List.range'_succ]
      simp only [Op.eqItems, Sem.run_bind, h1, h2, heq, Result.andThen_ok]
      rw [List.drop_eq_getElem_cons hjx, List.drop_eq_getElem_cons hjy]
      by_cases hq : xs[j] = ys[j]
      · have := ih (j + 1) (by omega)
        simp only [hq, decide_true, Bool.not_true, Bool.false_eq_true, if_false, this, List.cons.injEq, true_and]
      · simp only [hq, decide_false, Bool.not_false, if_true, Sem.run_pure, List.cons.injEq, false_and]
  have := key m 0 (by omega)
  rwa [← List.range_eq_range', List.drop_zero, List.drop_zero] at this

theorem eq_u8 {e : TypeId} (h : P.underlying e = some (.int .u8)) (dep : Nat) (a b : UInt8) : (Op.equalIn (dep + 1) e (u8 a) (u8 b)).run P w = .ok (decide (a = b)) w := by
  rw [run_equalIn_int w dep e .u8 .u8 _ _ h]
  congr 1
  by_cases hq : a = b
  · simp [hq]
  · have : ¬ (a.toNat : Int) = (b.toNat : Int) := fun e => hq (UInt8.toNat.inj (by omega))
    simp [hq, this]

theorem eq_i64 {e : TypeId} (h : P.underlying e = some (.int .i64)) (dep : Nat) (a b : Int) : (Op.equalIn (dep + 1) e (.int .i64 a) (.int .i64 b)).run P w = .ok (decide (a = b)) w := by
  rw [run_equalIn_int w dep e .i64 .i64 _ _ h]
  congr 1
theorem eq_bool {e : TypeId} (h : P.underlying e = some .bool) (dep : Nat) (a b : Bool) : (Op.equalIn (dep + 1) e (.bool a) (.bool b)).run P w = .ok (decide (a = b)) w := by
  rw [run_equalIn_bool w dep e _ _ h]
  cases a <;> cases b <;> rfl
theorem eq_str {e : TypeId} (h : P.underlying e = some .string) (dep : Nat) (a b : List UInt8) : (Op.equalIn (dep + 1) e (str a) (str b)).run P w = .ok (decide (a = b)) w := by
  rw [run_equalIn_string w dep e _ _ h]
  congr 1
  rw [ByteArray.toList_eq, ByteArray.toList_eq]
  by_cases h : a = b <;> simp [h]
theorem ifs_end (w : World) (p : Prop) [Decidable p] : (if p then (Result.ok true w : Result Bool) else .ok false w) = .ok (decide p) w := by by_cases h : p <;> simp [h]
theorem ifs_next (w : World) (p q : Prop) [Decidable p] [Decidable q] : (if p then (Result.ok (decide q) w : Result Bool) else .ok false w) = .ok (decide (p ∧ q)) w := by by_cases h : p <;> simp [h]

theorem Own.thenCh' {w0 w w2 : World} {b : Nat} {t : TypeId} {sz : Nat} {v : Value} {m : Nat} {cs : List Value} (h : Own w b t sz v m cs) (h0 : Ch [] w0 w) (hc : Ch (blk v) w w2) (hb : w0.heap.size ≤ b) : Ch [] w0 w2 :=
  (h.base hb).thenCh h0 hc

theorem notin_next {g b : Nat} {v v' : Value} (hn : ∀ b', v'.ownBlock = some b' → v.ownBlock = some b' ∨ b' = b) (h : g ∉ blk v) (hg : g < b) : g ∉ blk v' := fun hm => by
  rcases hn g (by simpa [blk] using hm) with h1 | h1
  · exact h (by simpa [blk] using h1)
  · omega
theorem Own.notlast {w : World} {b g : Nat} {t : TypeId} {sz : Nat} {v : Value} {m : Nat} {cs : List Value} (h : Own w b t sz v m cs) (hg : w.heap.size ≤ g) : g ∉ blk v := fun hm => by
  have := h.lt g (by simpa [blk] using hm); omega

/-- A struct or an array written out, some of its parts given. -/
theorem TL.buildRec {dd : Tmp} {parts : Array (Nat × Operand)} (idx : List Nat) (xs : List Operand) {vs : List Value} (cells : List Value) (hp : parts = (idx.zip xs).toArray) (hxs : evs E xs = some vs) (hb : P.built t (idx.zip vs) = some cells.toArray) (hd : Nat.blt dd n = true)
    (h : TL P n ops rest ((dd, .agg cells.toArray) :: E) w K) : TL P n ops (⟨some dd, .build t parts, ty, pos, aft, none⟩ :: rest) E w K :=
  TL.val hd _ (fun a ha => by
    have e1 : (parts.map fun p => (p.1, a.eval p.2)).toList = idx.zip vs := by
      rw [hp, ← ha.evals hxs, List.zip_map_right]; simp [Prod.map]
    have hr := run_build (P := P) w t (parts.map fun p => (p.1, a.eval p.2)) cells.toArray (by rw [e1]; exact hb)
    simp only [execOp, Sem.run_bind, hr, Result.andThen_ok, Sem.run_pure]) h

theorem take_spl {L x : List Value} {a n : Nat} (h : a + x.length ≤ n) (hn : n ≤ L.length) : (L.take a ++ x ++ L.drop (a + x.length)).take n = (L.take n).take a ++ x ++ (L.take n).drop (a + x.length) := by
  rw [List.take_take, Nat.min_eq_left (by omega), List.take_append, List.take_of_length_le (by rw [List.length_append, List.length_take]; omega), List.drop_take]
  congr 2
  rw [List.length_append, List.length_take]; omega
theorem rows_set {α : Type} {cl : α → List Value} {sz : Nat} (hcl : ∀ x, (cl x).length = sz) (l : List α) {k : Nat} (hk : k < l.length) (x : α) : (l.set k x).flatMap cl = (l.flatMap cl).take (k * sz) ++ cl x ++ (l.flatMap cl).drop (k * sz + sz) := by
  rw [show k * sz + sz = (k + 1) * sz by rw [Nat.add_mul]; omega, rows_take hcl, rows_drop hcl, List.set_eq_take_append_cons_drop, if_pos hk]
  simp
/-- One element of an own row of structs, stored. -/
theorem Own.setRec {α : Type} {cl : α → List Value} {sz : Nat} (hcl : ∀ x, (cl x).length = sz) {w w' : World} {base g c : Nat} {e : TypeId} {l : List α} {cur : Array Value} {k : Nat} {x : α} (h : Own w base e sz (.slice (some ⟨g, 0, none⟩) l.length c) l.length (l.flatMap cl)) (hcur : Has w g cur e (0, 0))
    (hk : k < l.length) (hb : Has w' g (spl cur (0 + k * sz) (cl x)) e (0, 0)) : Own w' base e sz (.slice (some ⟨g, 0, none⟩) l.length c) l.length ((l.set k x).flatMap cl) := by
  rcases h.2 with ⟨h, _⟩ | ⟨g', c', cur', he, hbg, hg, h3, h4, h5, h6⟩
  · cases h
  · cases he
    have e1 : cur = cur' := by
      have := hcur.symm.trans hg
      simpa using this
    subst e1
    have hks : k * sz + sz ≤ l.length * sz := by
      have := Nat.mul_le_mul_right sz (show k + 1 ≤ l.length by omega)
      rw [Nat.add_mul] at this; omega
    have hcs : l.length * sz ≤ cur.size := by rw [h5]; exact Nat.mul_le_mul_right sz h3
    rw [Nat.zero_add] at hb
    refine ⟨by rw [rows_len hcl, List.length_set], .inr ⟨g, c, _, rfl, hbg, hb, h3, h4, by rw [size_spl (by rw [hcl]; omega)]; exact h5, ?_⟩⟩
    rw [rows_set hcl l hk, ← h6]
    simp only [spl]
    rw [take_spl (by rw [hcl]; omega) (by simpa using hcs), hcl]

/-- A cell of a slice, at the address that the walk comes to. -/
theorem Rd.cellIn {b off c m : Nat} {cs : List Value} {v : Value} (h : Rd w (.slice (some ⟨b, off, none⟩) m c) 1 m cs) {i : Nat} (hi : i < m) (hv : cs[i]? = some v) : w.cell? ⟨b, off + i * 1, none⟩ = some v := by
  obtain ⟨b', off', e, hc⟩ := h.at0 hi
  cases e
  rw [Nat.mul_one, hc, hv]
theorem Rd.eltIn {α : Type} {f : α → Value} {b off c m : Nat} {l : List α} (h : Rd w (.slice (some ⟨b, off, none⟩) m c) 1 m (l.map f)) {i : Nat} (hi : i < l.length) : w.cell? ⟨b, off + i * 1, none⟩ = some (f l[i]) := by
  have hl := h.len
  rw [List.length_map, Nat.mul_one] at hl
  exact h.cellIn (by omega) (by rw [List.getElem?_map, List.getElem?_eq_getElem hi]; rfl)
theorem Rd.some_ {ad : Option Addr} {c m : Nat} {cs : List Value} (h : Rd w (.slice ad m c) 1 m cs) (hm : 0 < m) : ∃ b off, ad = some ⟨b, off, none⟩ := by
  obtain ⟨b, off, e, _⟩ := h.at0 hm
  exact ⟨b, off, e⟩
theorem Rd.someS {ad : Option Addr} {c m sz : Nat} {cs : List Value} (h : Rd w (.slice ad m c) sz m cs) (hm : 0 < m) (hs : 0 < sz) : ∃ b off, ad = some ⟨b, off, none⟩ := by
  obtain ⟨b, off, e, _⟩ := h.at hm hs
  exact ⟨b, off, e⟩

theorem Rd.ofRow {b m : Nat} {e : TypeId} {fr : Nat × Nat} {cs : List Value} (h : Has w b cs.toArray e fr) (hl : cs.length = m) (hm : m ≤ maxLen) : Rd w (.slice (some ⟨b, 0, none⟩) m m) 1 m cs := by
  refine Rd.ofHas h hm (by simp [hl]) ?_
  rw [List.drop_zero, List.take_of_length_le (by simp [hl])]
theorem zeros (n : Nat) : (Array.replicate n (Value.int .u8 0)) = ((List.replicate n (0 : UInt8)).map u8).toArray := by rw [List.map_replicate, List.toArray_replicate]; rfl
theorem spl_head (z m : List Value) (h : m.length ≤ z.length) : spl z.toArray 0 m = (m ++ z.drop m.length).toArray := by
  simp only [spl, List.take_zero, List.nil_append, Nat.zero_add]

theorem flat_le {α β : Type} (f : α → List β) (l : List α) (k : Nat) : ((l.take k).flatMap f).length ≤ (l.flatMap f).length := by
  conv => rhs; rw [← List.take_append_drop k l]
  rw [List.flatMap_append, List.length_append]; omega
theorem flat_next {α β : Type} (f : α → List β) (l : List α) {k : Nat} (hk : k < l.length) : (l.take (k + 1)).flatMap f = (l.take k).flatMap f ++ f l[k] := by
  rw [List.take_add_one, List.getElem?_eq_getElem hk, Option.toList_some, List.flatMap_append]; simp
end
end Go.Lane
