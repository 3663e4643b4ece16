/-
  The lane, part B: memory. What a block holds, what a slice reads, what a change of the world leaves alone; and the laws of the memory's operations.
  Generic in the program.
-/
import Derived.Test.YtkgckmdhlokjmaaLaneA
import Derived.Laws.CopyOwn
import Derived.Lib.Hide
namespace Go.Lane
open Go.RowKit (Below)

/-- The change from 'w' to 'w'' touches, of what was there, the blocks of 'S' alone. -/
structure Ch (S : List Nat) (w w' : World) : Prop where
  os : w'.os = w.os
  tape : w'.tape = w.tape
  output : w'.output = w.output
  size : w.heap.size ≤ w'.heap.size
  block : ∀ k, k < w.heap.size → k ∉ S → w'.heap[k]? = w.heap[k]?

theorem Ch.refl (S : List Nat) (w : World) : Ch S w w := ⟨rfl, rfl, rfl, Nat.le_refl _, fun _ _ _ => rfl⟩
theorem Ch.trans {S T U : List Nat} {a b c : World} (h : Ch S a b) (k : Ch T b c) (hS : ∀ x, x ∈ S → x < a.heap.size → x ∈ U) (hT : ∀ x, x ∈ T → x < a.heap.size → x ∈ U) : Ch U a c :=
  ⟨k.os.trans h.os, k.tape.trans h.tape, k.output.trans h.output, Nat.le_trans h.size k.size, fun i hi hU =>
    (k.block i (Nat.lt_of_lt_of_le hi h.size) (fun h' => hU (hT i h' hi))).trans (h.block i hi (fun h' => hU (hS i h' hi)))⟩
theorem Ch.trans0 {a b c : World} (h : Ch [] a b) (k : Ch [] b c) : Ch [] a c := h.trans k (by simp) (by simp)
/-- What follows touches a block that was not there at first. -/
theorem Ch.then1 {a b c : World} {x : Nat} (h : Ch [] a b) (k : Ch [x] b c) (hx : a.heap.size ≤ x) : Ch [] a c :=
  h.trans k (by simp) (by intro y hy hlt; simp at hy; omega)
theorem Ch.thenS {a b c : World} {S : List Nat} (h : Ch [] a b) (k : Ch S b c) (hx : ∀ x ∈ S, a.heap.size ≤ x) : Ch [] a c :=
  h.trans k (by simp) (by intro y hy hlt; have := hx y hy; omega)
theorem Ch.below {a b : World} (h : Ch [] a b) : Below a.heap.size a b := ⟨h.os, h.tape, h.output, h.size, fun k hk => h.block k hk (by simp)⟩
theorem Ch.ofBelow {a b : World} (h : Below a.heap.size a b) : Ch [] a b := ⟨h.os, h.tape, h.output, h.size, fun k hk _ => h.block k hk⟩
theorem Ch.grown {S : List Nat} {w w' : World} {row : Option Nat} (h : w.grownBy w' row) (hr : ∀ k, row = some k → k ∈ S) : Ch S w w' :=
  ⟨h.os, h.tape, h.output, h.size, fun k hk hS => h.block k hk (fun e => hS (hr k e.symm))⟩
theorem Ch.weaken {S T : List Nat} {w w' : World} (h : Ch S w w') (hs : ∀ x ∈ S, x ∈ T) : Ch T w w' :=
  ⟨h.os, h.tape, h.output, h.size, fun k hk hT => h.block k hk (fun h' => hT (hs k h'))⟩
theorem Ch.drew (S : List Nat) (w : World) : Ch S w w.drew := ⟨rfl, rfl, rfl, Nat.le_refl _, fun _ _ _ => rfl⟩
theorem Ch.alloc (S : List Nat) (w : World) (o : Obj) : Ch S w (w.alloc o) :=
  ⟨rfl, rfl, rfl, by simp, fun k hk _ => by show (w.heap.push o)[k]? = _; rw [Array.getElem?_push, if_neg (by omega)]⟩

/-- Block 'b' is a row of cells. -/
def Has (w : World) (b : Nat) (cur : Array Value) (t : TypeId) (fr : Nat × Nat) : Prop := w.heap[b]? = some (.cells cur t fr)

theorem Has.lt {w : World} {b : Nat} {cur : Array Value} {t : TypeId} {fr : Nat × Nat} (h : Has w b cur t fr) : b < w.heap.size := (Array.getElem?_eq_some_iff.1 h).1
theorem Has.ch {w w' : World} {S : List Nat} {b : Nat} {cur : Array Value} {t : TypeId} {fr : Nat × Nat} (h : Has w b cur t fr) (hc : Ch S w w') (hS : b ∉ S) : Has w' b cur t fr :=
  (hc.block b h.lt hS).trans h
theorem Has.ch0 {w w' : World} {b : Nat} {cur : Array Value} {t : TypeId} {fr : Nat × Nat} (h : Has w b cur t fr) (hc : Ch [] w w') : Has w' b cur t fr := h.ch hc (by simp)
theorem Has.cell {w : World} {b : Nat} {cur : Array Value} {t : TypeId} {fr : Nat × Nat} (h : Has w b cur t fr) (i : Nat) : w.cell? ⟨b, i, none⟩ = cur[i]? := cell_of_row w b i cur t fr h
theorem Has.live {w : World} {b : Nat} {cur : Array Value} {t : TypeId} (h : Has w b cur t (0, 0)) (a : Addr) (ha : a.block = b) : w.frozen? a = false := by
  subst ha
  unfold World.frozen?
  rw [h]
  simp

/-- What a slice value reads: 'n' elements of 'sz' cells each. -/
def Rd (w : World) (v : Value) (sz n : Nat) (cs : List Value) : Prop :=
  ((∃ ad, v = .slice ad 0 0) ∧ n = 0 ∧ cs = []) ∨
  ∃ b off c cur t fr, v = .slice (some ⟨b, off, none⟩) n c ∧ Has w b cur t fr ∧ n ≤ c ∧ c ≤ maxLen ∧ off + c * sz ≤ cur.size ∧ cs = (cur.toList.drop off).take (n * sz)

theorem Rd.ch {w w' : World} {S : List Nat} {v : Value} {sz n : Nat} {cs : List Value} (h : Rd w v sz n cs) (hc : Ch S w w') (hS : ∀ k, v.ownBlock = some k → k ∉ S) : Rd w' v sz n cs := by
  rcases h with h | ⟨b, off, c, cur, t, fr, rfl, hh, r⟩
  · exact .inl h
  · exact .inr ⟨b, off, c, cur, t, fr, rfl, hh.ch hc (hS b rfl), r⟩
theorem Rd.ch0 {w w' : World} {v : Value} {sz n : Nat} {cs : List Value} (h : Rd w v sz n cs) (hc : Ch [] w w') : Rd w' v sz n cs := h.ch hc (by simp)
theorem Rd.len {w : World} {v : Value} {sz n : Nat} {cs : List Value} (h : Rd w v sz n cs) : cs.length = n * sz := by
  rcases h with ⟨_, rfl, rfl⟩ | ⟨b, off, c, cur, t, fr, rfl, hh, h1, h2, h3, rfl⟩
  · simp
  · have := Nat.mul_le_mul_right sz h1
    simp only [List.length_take, List.length_drop, Array.length_toList]; omega
theorem Rd.nlt {w : World} {v : Value} {sz n : Nat} {cs : List Value} (h : Rd w v sz n cs) : n ≤ maxLen := by
  rcases h with ⟨_, rfl, _⟩ | ⟨b, off, c, cur, t, fr, rfl, hh, h1, h2, h3, rfl⟩
  · exact Nat.zero_le _
  · omega
theorem Rd.shape {w : World} {v : Value} {sz n : Nat} {cs : List Value} (h : Rd w v sz n cs) : ∃ a c, v = .slice a n c ∧ (a = none → n = 0) := by
  rcases h with ⟨⟨ad, rfl⟩, rfl, _⟩ | ⟨b, off, c, cur, t, fr, rfl, _⟩
  · exact ⟨ad, 0, rfl, fun _ => rfl⟩
  · exact ⟨_, c, rfl, by simp⟩
/-- The cell of an element. -/
theorem Rd.at {w : World} {a : Option Addr} {c sz n : Nat} {cs : List Value} (h : Rd w (.slice a n c) sz n cs) {i j : Nat} (hi : i < n) (hj : j < sz) :
    ∃ b off, a = some ⟨b, off, none⟩ ∧ w.cell? ⟨b, off + i * sz + j, none⟩ = cs[i * sz + j]? := by
  rcases h with ⟨_, rfl, _⟩ | ⟨b, off, c', cur, t, fr, e, hh, h1, h2, h3, rfl⟩
  · omega
  · cases e
    refine ⟨b, off, rfl, ?_⟩
    rw [hh.cell]
    have : i * sz + j < n * sz := by
      have := Nat.mul_le_mul_right sz (show i + 1 ≤ n by omega)
      rw [Nat.add_mul] at this; omega
    simp [this, Nat.add_assoc]

theorem Rd.at0 {w : World} {a : Option Addr} {c n : Nat} {cs : List Value} (h : Rd w (.slice a n c) 1 n cs) {i : Nat} (hi : i < n) :
    ∃ b off, a = some ⟨b, off, none⟩ ∧ w.cell? ⟨b, off + i, none⟩ = cs[i]? := by
  obtain ⟨b, off, h1, h2⟩ := h.at hi (j := 0) (by omega)
  exact ⟨b, off, h1, by simpa using h2⟩

/-- A part of a slice. -/
theorem Rd.sub {w : World} {b off n c sz : Nat} {cs : List Value} (h : Rd w (.slice (some ⟨b, off, none⟩) n c) sz n cs) {lo hi : Nat} (h1 : lo ≤ hi) (h2 : hi ≤ n) :
    Rd w (.slice (some ⟨b, if c = lo then off else off + lo * sz, none⟩) (hi - lo) (c - lo)) sz (hi - lo) ((cs.drop (lo * sz)).take ((hi - lo) * sz)) := by
  rcases h with ⟨⟨ad, h⟩, h0, hc⟩ | ⟨b', off', c', cur, t, fr, e, hh, g1, g2, g3, rfl⟩
  · cases h
    have e1 : lo = 0 := by omega
    have e2 : hi = 0 := by omega
    subst e1; subst e2; subst hc
    exact .inl ⟨⟨_, rfl⟩, rfl, by simp⟩
  · cases e
    refine .inr ⟨_, _, _, cur, t, fr, rfl, hh, by omega, by omega, ?_, ?_⟩
    · split
      · have : c - lo = 0 := by omega
        rw [this]; omega
      · have h3 : (c - lo) * sz + lo * sz = c * sz := by rw [← Nat.add_mul]; congr 1; omega
        omega
    · split
      · have h0 : hi - lo = 0 := by omega
        simp [h0]
      · have h3 : (hi - lo) * sz + lo * sz ≤ n * sz := by rw [← Nat.add_mul]; exact Nat.mul_le_mul_right sz (by omega)
        rw [List.drop_take, List.take_take, List.drop_drop]
        congr 1
        omega

theorem Rd.nil (w : World) (sz : Nat) : Rd w (.slice none 0 0) sz 0 [] := .inl ⟨⟨none, rfl⟩, rfl, rfl⟩

theorem Rd.ofOwn {w : World} {base : Nat} {t : TypeId} {sz : Nat} {v : Value} {n : Nat} {cs : List Value} (h : w.ownsRow base t sz v n cs) : Rd w v sz n cs := by
  obtain ⟨h1, h2⟩ := h
  rcases h2 with ⟨rfl, rfl⟩ | ⟨g, cap, cur, rfl, hb, hg, h3, h4, h5, rfl⟩
  · have : cs = [] := List.eq_nil_of_length_eq_zero (by simpa using h1)
    exact .inl ⟨⟨none, rfl⟩, rfl, this⟩
  · exact .inr ⟨g, 0, cap, cur, t, (0, 0), rfl, hg, h3, h4, by omega, by simp⟩

abbrev Own (w : World) (base : Nat) (t : TypeId) (sz : Nat) (v : Value) (n : Nat) (cs : List Value) : Prop := w.ownsRow base t sz v n cs

theorem Own.ch {w w' : World} {S : List Nat} {base : Nat} {t : TypeId} {sz : Nat} {v : Value} {n : Nat} {cs : List Value} (h : Own w base t sz v n cs) (hc : Ch S w w') (hS : ∀ k, v.ownBlock = some k → k ∉ S) : Own w' base t sz v n cs := by
  obtain ⟨h1, h2⟩ := h
  refine ⟨h1, ?_⟩
  rcases h2 with h2 | ⟨g, cap, cur, rfl, hb, hg, r⟩
  · exact .inl h2
  · exact .inr ⟨g, cap, cur, rfl, hb, Has.ch hg hc (hS g rfl), r⟩
theorem Own.ch0 {w w' : World} {base : Nat} {t : TypeId} {sz : Nat} {v : Value} {n : Nat} {cs : List Value} (h : Own w base t sz v n cs) (hc : Ch [] w w') : Own w' base t sz v n cs := h.ch hc (by simp)
theorem Own.base {w : World} {base base' : Nat} {t : TypeId} {sz : Nat} {v : Value} {n : Nat} {cs : List Value} (h : Own w base t sz v n cs) (hb : base' ≤ base) : Own w base' t sz v n cs := by
  obtain ⟨h1, h2⟩ := h
  refine ⟨h1, ?_⟩
  rcases h2 with h2 | ⟨g, cap, cur, rfl, hb', r⟩
  · exact .inl h2
  · exact .inr ⟨g, cap, cur, rfl, by omega, r⟩
theorem Own.ge {w : World} {base : Nat} {t : TypeId} {sz : Nat} {v : Value} {n : Nat} {cs : List Value} (h : Own w base t sz v n cs) : ∀ k, v.ownBlock = some k → base ≤ k := fun k hk => (World.ownsRow.lt h k hk).1
theorem Own.shape {w : World} {base : Nat} {t : TypeId} {sz : Nat} {v : Value} {n : Nat} {cs : List Value} (h : Own w base t sz v n cs) : ∃ a c, v = .slice a n c := by
  rcases h.2 with ⟨rfl, rfl⟩ | ⟨g, cap, cur, rfl, _⟩ <;> exact ⟨_, _, rfl⟩
/-- The blocks that a store through this value can touch. -/
def blk (v : Value) : List Nat := v.ownBlock.toList
theorem Own.thenCh {w0 w w' : World} {t : TypeId} {sz : Nat} {v : Value} {n : Nat} {cs : List Value} (h : Own w w0.heap.size t sz v n cs) (h0 : Ch [] w0 w) (hc : Ch (blk v) w w') : Ch [] w0 w' :=
  h0.thenS hc (fun x hx => by
    have : v.ownBlock = some x := by simpa [blk] using hx
    exact Own.ge h x this)

/-! ## Types -/
structure SliceT (P : Program) (t e : TypeId) (sz by_ : Nat) (z : Value) : Prop where
  under : P.underlying t = some (.slice e)
  info : ∃ i, P.info? e = some i ∧ i.zero = some z ∧ i.size = sz ∧ i.bytes = by_
  cells : z.cells.size = sz
  pos : 0 < sz

theorem SliceT.mk' {P : Program} {t e : TypeId} {z : Value} {sz by_ : Nat} (h1 : P.underlying t = some (.slice e)) (h2 : (P.info? e).map (fun i => (i.zero, i.size, i.bytes)) = some (some z, sz, by_)) (h3 : z.cells.size = sz) (h4 : Nat.blt 0 sz = true) : SliceT P t e sz by_ z :=
  ⟨h1, info_parts h2, h3, by simpa [Nat.blt_eq] using h4⟩

section
variable {P : Program} {n : Nat} {E : Slots} {w : World} {K : Slots → World → Prop} {ops : Array Oper} {rest : List Oper} {d : Option Tmp} {ty : TypeId} {pos : String} {aft : Array Edge}

theorem run_sizeOf {t : TypeId} {i : TypeInfo} (h : P.info? t = some i) (w : World) : (sizeOf t).run P w = .ok i.size w := by simp [sizeOf, typeInfo, h]
theorem run_typeInfo {t : TypeId} {i : TypeInfo} (h : P.info? t = some i) (w : World) : (typeInfo t).run P w = .ok i w := by simp [typeInfo, h]

/-! ## append -/
/-- What is appended: 'm' elements, 'news' cells. -/
structure News (P : Program) (w : World) (u : TypeId) (x : Value) (sz m : Nat) (news : List Value) : Prop where
  kind : (∃ e', P.underlying u = some (.slice e')) ∨ P.underlying u = some .string
  len : ∀ w', (Builtin.lenOf x).run P w' = .ok m w'
  cells : (Builtin.firstCells sz m x).run P w = .ok news.toArray w
  drawn : (Builtin.firstCells sz m x).run P w.drew = .ok news.toArray w.drew
  size : news.length = m * sz
  one : ∀ u ∈ news, u.oneCell' = true

theorem News.ofRd {u e : TypeId} {x : Value} {sz m : Nat} {news : List Value} (hu : P.underlying u = some (.slice e)) (h : Rd w x sz m news) (h1 : ∀ u ∈ news, u.oneCell' = true) : News P w u x sz m news := by
  refine ⟨.inl ⟨_, hu⟩, fun w' => ?_, ?_, ?_, h.len, h1⟩
  · obtain ⟨a, c, rfl, _⟩ := h.shape; simp [Builtin.lenOf]
  · rcases h with ⟨⟨ad, rfl⟩, rfl, rfl⟩ | ⟨b, off, c, cur, t, fr, rfl, hh, g1, g2, g3, rfl⟩
    · cases ad <;> simp [Builtin.firstCells, loadCells, loadCellsFrom]
    · have g4 := Nat.mul_le_mul_right sz g1
      refine run_firstCells_some (P := P) w sz m _ m c _ (by simp only [List.length_take, List.length_drop, Array.length_toList]; omega) ?_
      intro j v hj
      rw [Addr.add_lit, hh.cell]
      rw [List.getElem?_take] at hj
      split at hj
      · simpa using hj
      · cases hj
  · rcases h with ⟨⟨ad, rfl⟩, rfl, rfl⟩ | ⟨b, off, c, cur, t, fr, rfl, hh, g1, g2, g3, rfl⟩
    · cases ad <;> simp [Builtin.firstCells, loadCells, loadCellsFrom]
    · have g4 := Nat.mul_le_mul_right sz g1
      refine run_firstCells_some (P := P) w.drew sz m _ m c _ (by simp only [List.length_take, List.length_drop, Array.length_toList]; omega) ?_
      intro j v hj
      rw [Addr.add_lit, World.cell?_drew, hh.cell]
      rw [List.getElem?_take] at hj
      split at hj
      · simpa using hj
      · cases hj

theorem News.ofString {u : TypeId} {l : List UInt8} (hu : P.underlying u = some .string) : News P w u (.string ⟨l.toArray⟩) 1 l.length (l.map fun b => .int .u8 b.toNat) := by
  have hx : ((⟨l.toArray⟩ : ByteArray).extract 0 l.length) = ⟨l.toArray⟩ := by
    rw [ByteArray.extract_mk]; simp
  refine ⟨.inr hu, fun w' => by simp [Builtin.lenOf, ByteArray.size], ?_, ?_, by simp, ?_⟩
  · simp only [Builtin.firstCells, hx]; simp
  · simp only [Builtin.firstCells, hx]; simp
  · intro v hv
    obtain ⟨b, _, rfl⟩ := List.mem_map.1 hv
    rfl

theorem run_append_gen {t u ty e : TypeId} {sz by_ : Nat} {z : Value} (ht : SliceT P t e sz by_ z) {base : Nat} {v x : Value} {k m : Nat} {xs news : List Value}
    (hown : Own w base e sz v k xs) (hx : News P w u x sz m news) (hmax : k + m ≤ maxLen) (hbytes : (k + m) * by_ ≤ 140737488355328) (hbase : base ≤ w.heap.size) :
    ∃ v' w', (Builtin.append_ #[t, u] ty #[v, x]).run P w = .ok v' w' ∧ Own w' base e sz v' (k + m) (xs ++ news) ∧ Ch (blk v) w w' ∧ (v' = .slice none 0 0 ↔ v = .slice none 0 0 ∧ m = 0) ∧ (∀ b, v'.ownBlock = some b → v.ownBlock = some b ∨ b = w.heap.size) := by
  have hkind := hx.kind
  obtain ⟨i, hi, hz, hsz, hby⟩ := ht.info
  have hlen := hx.len
  have hcells := hx.cells
  have hdrawn := hx.drawn
  have h1 := hx.one
  have hnl := hx.size
  have hzc := ht.cells
  have hpos := ht.pos
  have hxl : (xs ++ news).length = (k + m) * sz := by rw [List.length_append, hown.1, hnl, Nat.add_mul]
  have grown : ∀ (old : Nat), old < k + m → ∀ S,
      Own (w.drew.alloc (.cells (xs.toArray ++ news.toArray ++ Builtin.zeroCells z.cells (grownCap w (k + m) old e - (k + m))) e)) base e sz (.slice (some ⟨w.heap.size, 0, none⟩) (k + m) (grownCap w (k + m) old e)) (k + m) (xs ++ news) ∧
      Ch S w (w.drew.alloc (.cells (xs.toArray ++ news.toArray ++ Builtin.zeroCells z.cells (grownCap w (k + m) old e - (k + m))) e)) := by
    intro old ho S
    have hge := grownCap_ge w (k + m) old e
    have hcm : grownCap w (k + m) old e ≤ maxLen := grownCap_le_maxLen w (k + m) old e hmax
    refine ⟨⟨hxl, .inr ⟨w.heap.size, _, _, rfl, hbase, heap_alloc_new w.drew _, hge, hcm, ?_, ?_⟩⟩, (Ch.drew S w).trans (Ch.alloc S w.drew _) (fun _ h _ => h) (fun _ h _ => h)⟩
    · simp only [Array.size_append, List.size_toArray, size_zeroCells, hzc, hown.1, hnl, ← Nat.add_mul]
      congr 1
      omega
    · simp only [Array.toList_append, List.append_assoc]
      rw [← List.append_assoc, ← hxl]
      exact List.take_left
  have hzero : ∀ w', (zeroValue e).run P w' = .ok z w' := fun w' => by simp [zeroValue, run_typeInfo hi, hz]
  have hrow : ∀ (cs : Array Value) w', (newRow e cs).run P w' = .ok ⟨w'.heap.size, 0, none⟩ (w'.alloc (.cells cs e)) := fun cs w' => by simp [newRow]
  rcases hown.2 with ⟨rfl, rfl⟩ | ⟨g, cap, cur, rfl, hbg, hg, hnc, hcm, hcs, htake⟩
  · have hx0 : xs = [] := List.eq_nil_of_length_eq_zero (by simpa using hown.1)
    subst hx0
    by_cases hm : m = 0
    · subst hm
      have hn : news = [] := List.eq_nil_of_length_eq_zero (by simpa using hnl)
      subst hn
      refine ⟨.slice none 0 0, w, ?_, World.ownsRow_nil w base e sz, Ch.refl _ _, by simp, fun b h => .inl h⟩
      unfold Builtin.append_
      rcases hkind with ⟨e', hu⟩ | hu <;> simp [run_underlying ht.under, run_underlying hu, run_sizeOf hi, hsz, hlen, hcells]
    · have hb := hbytes
      rw [Nat.zero_add] at hb
      have hcap : Builtin.nextslicecap m 0 = m := nextslicecap_zero (by omega)
      have hfit : ¬ (281474976710656 < m * by_) := by omega
      have hsmall : ¬ (9223372036854775807 : Int) < (m : Int) := by simp only [maxLen] at hmax; omega
      obtain ⟨g1, g2⟩ := grown 0 (by omega) (blk (.slice none 0 0))
      refine ⟨_, _, ?_, g1, g2, by simp [hm], fun b h => .inr (by simpa [Value.ownBlock] using h.symm)⟩
      unfold Builtin.append_
      rcases hkind with ⟨e', hu⟩ | hu <;>
        simp [run_underlying ht.under, run_underlying hu, run_sizeOf hi, run_typeInfo hi, hsz, hby, hlen, hdrawn, hm, hcap, hfit, hsmall, hzero, hrow, run_firstCells_none, IntKind.max, IntKind.bits, IntKind.signed, Question.forced, grownCap]
  · by_cases hroom : k + m ≤ cap
    · have hfit : k * sz + news.length ≤ cur.size := by rw [hnl, hcs, ← Nat.add_mul]; exact Nat.mul_le_mul_right _ hroom
      have hst := run_storeCells_at P g (k * sz) e news 0 cur w hg (by simpa using hfit) h1
      simp only [Nat.add_zero] at hst
      refine ⟨.slice (some ⟨g, 0, none⟩) (k + m) cap, w.setRow g (cur.toList.take (k * sz) ++ news ++ cur.toList.drop (k * sz + news.length)).toArray, ?_,
        ⟨hxl, .inr ⟨g, cap, _, rfl, hbg, setRow_heap w g cur _ e _ hg, hroom, hcm, ?_, ?_⟩⟩, ⟨rfl, rfl, rfl, by simp [World.setRow], fun j _ hj => setRow_other w g j _ (fun e => hj (by simp [blk, Value.ownBlock, e]))⟩, by simp, fun b h => .inl h⟩
      · unfold Builtin.append_
        rcases hkind with ⟨e', hu⟩ | hu <;> simp [run_underlying ht.under, run_underlying hu, run_sizeOf hi, hsz, hlen, hcells, hroom, Addr.add_lit, hst]
      · simp only [List.size_toArray, List.length_append, List.length_take, List.length_drop, Array.length_toList]
        omega
      · rw [htake, ← hxl]
        exact List.take_left
    · have hsmall : ¬ (9223372036854775807 : Int) < (k : Int) + (m : Int) := by simp only [maxLen] at hmax; omega
      have hfit : ¬ (281474976710656 < Builtin.nextslicecap (k + m) cap * by_) := by
        have := growslice_fits (need := k + m) (old := cap) (bytes := by_) (by omega) hbytes; omega
      have hold : (Builtin.firstCells sz k (.slice (some ⟨g, 0, none⟩) k cap)).run P w.drew = .ok xs.toArray w.drew :=
        run_firstCells_some (P := P) w.drew sz k ⟨g, 0, none⟩ k cap xs hown.1 (fun j u hj => World.ownsRow.cells (g := g) hown rfl j u hj)
      obtain ⟨g1, g2⟩ := grown cap (by omega) (blk (.slice (some ⟨g, 0, none⟩) k cap))
      refine ⟨_, _, ?_, g1, g2, by simp, fun b h => .inr (by simpa [Value.ownBlock] using h.symm)⟩
      unfold Builtin.append_
      rcases hkind with ⟨e', hu⟩ | hu <;>
        simp [run_underlying ht.under, run_underlying hu, run_sizeOf hi, run_typeInfo hi, hsz, hby, hlen, hdrawn, hroom, hfit, hsmall, hzero, hrow, hold, IntKind.max, IntKind.bits, IntKind.signed, Question.forced, grownCap, -Array.append_assoc]

theorem TL.append {s x : Operand} {t u e : TypeId} {sz by_ : Nat} {z : Value} (ht : SliceT P t e sz by_ z) {base : Nat} {v xv : Value} {k m : Nat} {xs news : List Value}
    (hs : ev E s = some v) (hx : ev E x = some xv) (hd : fits n d = true) (hown : Own w base e sz v k xs) (hn : News P w u xv sz m news) (hmax : k + m ≤ maxLen) (hbytes : (k + m) * by_ ≤ 140737488355328) (hbase : base ≤ w.heap.size)
    (h : ∀ v' w', Own w' base e sz v' (k + m) (xs ++ news) → Ch (blk v) w w' → (v' = .slice none 0 0 ↔ v = .slice none 0 0 ∧ m = 0) → TL P n ops rest (upd E d v') w' K) :
    TL P n ops (⟨d, .call { callee := .builtin .append, args := #[s, x], argTypes := #[t, u] }, ty, pos, aft, none⟩ :: rest) E w K := by
  obtain ⟨v', w', hr, h1, h2, h3, _⟩ := run_append_gen (ty := ty) ht hown hn hmax hbytes hbase
  refine TL.op rfl hd v' w' (fun a ha => ?_) (h v' w' h1 h2 h3)
  simp only [execOp, resolve, invoke, builtin, Sem.run_bind, Sem.run_pure, Result.andThen_ok, List.map_toArray, List.map_cons, List.map_nil, ha.eval hs, ha.eval hx, hr]

/-- The same, and where the row then lies: where it lay, or in a block that was not there. -/
theorem TL.appendD {s x : Operand} {t u e : TypeId} {sz by_ : Nat} {z : Value} (ht : SliceT P t e sz by_ z) {base : Nat} {v xv : Value} {k m : Nat} {xs news : List Value}
    (hs : ev E s = some v) (hx : ev E x = some xv) (hd : fits n d = true) (hown : Own w base e sz v k xs) (hn : News P w u xv sz m news) (hmax : k + m ≤ maxLen) (hbytes : (k + m) * by_ ≤ 140737488355328) (hbase : base ≤ w.heap.size)
    (h : ∀ v' w', Own w' base e sz v' (k + m) (xs ++ news) → Ch (blk v) w w' → (∀ b, v'.ownBlock = some b → v.ownBlock = some b ∨ b = w.heap.size) → TL P n ops rest (upd E d v') w' K) :
    TL P n ops (⟨d, .call { callee := .builtin .append, args := #[s, x], argTypes := #[t, u] }, ty, pos, aft, none⟩ :: rest) E w K := by
  obtain ⟨v', w', hr, h1, h2, _, h3⟩ := run_append_gen (ty := ty) ht hown hn hmax hbytes hbase
  refine TL.op rfl hd v' w' (fun a ha => ?_) (h v' w' h1 h2 h3)
  simp only [execOp, resolve, invoke, builtin, Sem.run_bind, Sem.run_pure, Result.andThen_ok, List.map_toArray, List.map_cons, List.map_nil, ha.eval hs, ha.eval hx, hr]

/-- Two values that lie in blocks of their own. -/
def Apart (v u : Value) : Prop := ∀ b, v.ownBlock = some b → u.ownBlock = some b → False
theorem Apart.symm {v u : Value} (h : Apart v u) : Apart u v := fun b h1 h2 => h b h2 h1
theorem Apart.notin {v u : Value} (h : Apart v u) : ∀ k, u.ownBlock = some k → k ∉ blk v := fun k hk hm => h k (by simpa [blk] using hm) hk
theorem Apart.next {w : World} {v v' u : Value} (h : Apart v u) (hn : ∀ b, v'.ownBlock = some b → v.ownBlock = some b ∨ b = w.heap.size) (hu : ∀ b, u.ownBlock = some b → b < w.heap.size) : Apart v' u := fun b h1 h2 => by
  rcases hn b h1 with h3 | h3
  · exact h b h3 h2
  · have := hu b h2; omega
theorem Apart.nil (u : Value) : Apart (.slice none 0 0) u := fun b h => by simp [Value.ownBlock] at h
theorem Own.lt {w : World} {base : Nat} {t : TypeId} {sz : Nat} {v : Value} {n : Nat} {cs : List Value} (h : Own w base t sz v n cs) : ∀ k, v.ownBlock = some k → k < w.heap.size := fun k hk => (World.ownsRow.lt h k hk).2
theorem Own.notin {w : World} {base b : Nat} {t : TypeId} {sz : Nat} {v : Value} {n : Nat} {cs : List Value} (h : Own w base t sz v n cs) (hb : b < base) : b ∉ blk v := fun hm => by
  have := h.ge b (by simpa [blk] using hm); omega
end
end Go.Lane
