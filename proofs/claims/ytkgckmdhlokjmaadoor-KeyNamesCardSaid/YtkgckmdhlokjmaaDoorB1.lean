/-
  Walks through the given program: each theorem fnN says what the call of function N of the translation hands back, for all arguments that its premises describe, and that nothing that was there has turned.
-/
import Derived.Test.YtkgckmdhlokjmaaDoorB0
import Derived.Test.YtkgckmdhlokjmaaDoorShelf
namespace Go.Proofs.YtkgckmdhlokjmaaDoor
open Go.Lane
open Go.Key
open Go.RowKit (Below)
theorem can39 : Callable Tryd.prog 39 := ⟨Tryd.f39, Tryd.func39, by kernel_rfl, rfl⟩
theorem fd48k0 : FieldT Tryd.prog 48 0 46 0 1 := ⟨_, _, Tryd.underlying48, rfl, rfl, rfl, by kernel_rfl, by decide⟩
theorem fd48k1 : FieldT Tryd.prog 48 1 37 1 1 := ⟨_, _, Tryd.underlying48, rfl, rfl, rfl, by kernel_rfl, by decide⟩
theorem pl37 : Plain Tryd.prog 37 := ⟨_, Tryd.underlying37, rfl⟩
theorem pl46 : Plain Tryd.prog 46 := ⟨_, Tryd.underlying46, rfl⟩
theorem sz37 : (Tryd.prog.info? 37).map (·.size) = some 1 := by kernel_rfl
theorem sz46 : (Tryd.prog.info? 46).map (·.size) = some 1 := by kernel_rfl
theorem lies48 : liesAt Tryd.prog Tryd.prog.depth 48 (2 / Tryd.prog.cellsOf 48) 0 48 1 = true := by kernel_rfl
theorem sz48 : (Tryd.prog.info? 48).map (·.size) = some 2 := by kernel_rfl
/-- A builder at block 'b', its buffer, its bytes so far. -/
def Bd (b : Nat) (v : Value) (l : List UInt8) (w : World) : Prop := ∃ p : Option Addr, (p = none ∨ p = some ⟨b, 0, none⟩) ∧ Has w b #[.pointer p, v] 48 (0, 0) ∧ Own w b 5 1 v l.length (l.map u8) ∧ ¬ v.ownBlock = some b
theorem Bd.ch {b : Nat} {v : Value} {l : List UInt8} {w w' : World} {S : List Nat} (h : Bd b v l w) (hc : Ch S w w') (hb : b ∉ S) (hv : ∀ k, v.ownBlock = some k → k ∉ S) : Bd b v l w' := by
  obtain ⟨p, h1, h2, h3, h4⟩ := h
  exact ⟨p, h1, h2.ch hc hb, h3.ch hc hv, h4⟩
theorem Bd.ch0 {b : Nat} {v : Value} {l : List UInt8} {w w' : World} (h : Bd b v l w) (hc : Ch [] w w') : Bd b v l w' := h.ch hc (by simp) (by simp)
theorem Bd.lt {b : Nat} {v : Value} {l : List UInt8} {w : World} (h : Bd b v l w) : b < w.heap.size := by obtain ⟨p, _, h2, _⟩ := h; exact h2.lt

theorem fn39 (b : Nat) (v : Value) (l : List UInt8) (w : World) (h : Bd b v l w) : Rets Tryd.prog 39 #[.pointer (some ⟨b, 0, none⟩)] w (fun _ w' => (Has w' b #[.pointer (some ⟨b, 0, none⟩), v] 48 (0, 0) ∧ Own w' b 5 1 v l.length (l.map u8) ∧ ¬ v.ownBlock = some b) ∧ Ch [b] w w') := by
  obtain ⟨p, hp, hb, hown, hne⟩ := h
  have hsh : w.shape? b = some (48, 2) := by unfold Has at hb; unfold World.shape?; rw [hb]; rfl
  obtain ⟨j, hj, hjs⟩ := Option.map_eq_some_iff.1 sz48
  refine Rets.of (n := 20) (vs := [_]) Tryd.func39 rfl rfl rfl ?_
  refine TC.seq ?_
  refine TC.region ?_
  refine TL.move rfl rfl ?_
  refine TL.nilCheck rfl rfl ?_
  refine TL.fieldAddr fd48k0 rfl rfl ?_
  refine TL.load pl46 rfl (hb.cell _) rfl ?_
  refine TL.eqlPtrNil Tryd.underlying46 rfl rfl rfl ?_
  refine TL.done ?_
  refine Thn.go ?_
  refine TC.condP rfl (fun h1 => ?_) (fun h1 => ?_)
  ·
    subst h1
    refine TC.region ?_
    refine TL.move rfl rfl ?_
    refine TL.move rfl rfl ?_
    refine TL.toUnsafe Tryd.underlying46 Tryd.underlying85 hj (by omega) hsh (by decide) rfl rfl ?_
    refine TL.modelFn (v := .pointer (some ⟨b, 0, none⟩)) Tryd.func47 (by kernel_rfl) (by kernel_rfl) (by kernel_rfl) (e := Extern.AbiNoEscape.same) (by kernel_rfl) rfl (Lib.run_noEscape _ _) rfl ?_
    refine TL.fromUnsafe Tryd.underlying85 Tryd.underlying46 hj hsh lies48 rfl rfl ?_
    refine TL.nilCheck rfl rfl ?_
    refine TL.fieldAddr fd48k0 rfl rfl ?_
    refine TL.store sz46 rfl rfl rfl (hb) (by first | omega | simp [Value.cells]) (by simp [Value.cells, Value.oneCell']) (.inl rfl) (fun ws1 hbs1 hcs1 hzs1 => ?_)
    replace hbs1 := hbs1.setOne rfl (by simp)
    refine TL.done ?_
    refine Ends.normal [] rfl rfl ?_
    exact ⟨⟨hbs1, Own.ch hown hcs1 (by intro k hk hm; simp at hm; subst hm; exact hne hk), hne⟩, hcs1⟩
  ·
    obtain rfl := hp.resolve_left h1
    refine TC.seq ?_
    refine TC.region ?_
    refine TL.move rfl rfl ?_
    refine TL.nilCheck rfl rfl ?_
    refine TL.fieldAddr fd48k0 rfl rfl ?_
    refine TL.load pl46 rfl (hb.cell _) rfl ?_
    refine TL.move rfl rfl ?_
    refine TL.neqPtrSame Tryd.underlying46 hj rfl rfl rfl ?_
    refine TL.done ?_
    refine Thn.go ?_
    refine TC.condF rfl rfl ?_
    refine TC.skip ?_
    refine Ends.normal [] rfl rfl ?_
    exact ⟨⟨hb, hown, hne⟩, Ch.refl _ _⟩

theorem fn20 (b : Nat) (v : Value) (l : List UInt8) (c : UInt8) (w : World) (h : Bd b v l w) (hl : l.length ≤ 1099511627776) : Rets Tryd.prog 20 #[.pointer (some ⟨b, 0, none⟩), u8 c] w (fun _ w' => (∃ v', Bd b v' (l ++ [c]) w' ∧ ∀ k, v'.ownBlock = some k → v.ownBlock = some k ∨ w.heap.size ≤ k) ∧ Ch (b :: blk v) w w') := by
  have hmm : maxLen = 9223372036854775807 := rfl
  refine Rets.of (n := 17) (vs := [_, _]) Tryd.func20 rfl rfl rfl ?_
  refine TC.seq ?_
  refine TC.region ?_
  refine TL.assign rfl rfl ?_
  refine TL.done ?_
  refine Thn.go ?_
  refine TC.seq ?_
  refine TC.region ?_
  refine TL.move rfl rfl ?_
  refine TL.call can39 rfl rfl (fn39 b v l w h) (fun v6 w6 hr6 => ?_)
  obtain ⟨⟨hb, hown, hne⟩, hc6⟩ := hr6
  have hbl := hb.lt
  refine TL.done ?_
  refine Thn.go ?_
  refine TC.seq ?_
  refine TC.region ?_
  refine TL.move rfl rfl ?_
  refine TL.move rfl rfl ?_
  refine TL.nilCheck rfl rfl ?_
  refine TL.fieldAddr fd48k1 rfl rfl ?_
  refine TL.load pl37 rfl (hb.cell _) rfl ?_
  refine TL.move rfl rfl ?_
  refine TL.buildSlice [.tmp 12] sl37 rfl rfl rfl (by decide) (by first | simp [Value.cells]; done | simp [Value.cells, cl_len]; done) rfl (fun w13 hb13 hc13 hz13 => ?_)
  refine TL.appendD sl37 rfl rfl rfl (hown.ch0 hc13) (News.ofRd Tryd.underlying37 (Rd.byte _ hb13) (one_byte _)) (by omega) (by omega) (by have := hc13.size; omega) (fun v14 w14 hv14 hc14 hn14 => ?_)
  have hb14 : Has w14 b #[.pointer (some ⟨b, 0, none⟩), v] 48 (0, 0) := (hb.ch0 hc13).ch hc14 (by simp [blk]; exact hne)
  have hne14 := Lib.ownBlock_ne hv14 hb14 (by decide)
  obtain ⟨a14, c14, rfl, _⟩ := hv14.shape
  refine TL.nilCheck rfl rfl ?_
  refine TL.fieldAddr fd48k1 rfl rfl ?_
  refine TL.store sz37 rfl rfl rfl (hb14) (by first | omega | simp [Value.cells]) (by simp [Value.cells, Value.oneCell']) (.inl rfl) (fun ws1 hbs1 hcs1 hzs1 => ?_)
  replace hbs1 := hbs1.setOne rfl (by simp)
  refine TL.done ?_
  refine Thn.go ?_
  refine TC.seq ?_
  refine TC.region ?_
  refine TL.assign rfl rfl ?_
  refine TL.done ?_
  refine Thn.go ?_
  refine TC.ret ?_
  refine Ends.ret [4] rfl rfl ?_
  refine ⟨⟨_, ⟨_, .inr rfl, hbs1, by rw [List.length_append, List.map_append]; exact Own.ch hv14 hcs1 (by intro k hk hm; simp at hm; subst hm; exact hne14 hk), hne14⟩, fun k hk => ?_⟩, ?_⟩
  · rcases hn14 k hk with h7 | h7
    · exact .inl h7
    · right; have := hc6.size; have := hc13.size; omega
  · exact ((hc6.trans hc13 (fun x h _ => by simpa using h) (by simp) : Ch [b] w w13).trans hc14 (fun x h _ => by simp at h; simp [h]) (fun x h _ => List.mem_cons_of_mem _ h) : Ch (b :: blk v) w w14).trans hcs1 (fun x h _ => h) (fun x h _ => by simp at h; simp [h])

theorem fn23 (b : Nat) (v : Value) (l : List UInt8) (a : Value) (m : List UInt8) (w : World) (h : Bd b v l w) (ha : Rd w a 1 m.length (m.map u8)) (hab : ∀ k, a.ownBlock = some k → k ≠ b) (hl : l.length + m.length ≤ 1099511627776) : Rets Tryd.prog 23 #[.pointer (some ⟨b, 0, none⟩), a] w (fun _ w' => (∃ v', Bd b v' (l ++ m) w' ∧ ∀ k, v'.ownBlock = some k → v.ownBlock = some k ∨ w.heap.size ≤ k) ∧ Ch (b :: blk v) w w') := by
  have hmm : maxLen = 9223372036854775807 := rfl
  obtain ⟨ad, ac, rfl, _⟩ := ha.shape
  refine Rets.of (n := 19) (vs := [_, _]) Tryd.func23 rfl rfl rfl ?_
  refine TC.seq ?_
  refine TC.region ?_
  refine TL.assign rfl rfl ?_
  refine TL.assign rfl rfl ?_
  refine TL.done ?_
  refine Thn.go ?_
  refine TC.seq ?_
  refine TC.region ?_
  refine TL.move rfl rfl ?_
  refine TL.call can39 rfl rfl (fn39 b v l w h) (fun v7 w7 hr7 => ?_)
  obtain ⟨⟨hb, hown, hne⟩, hc7⟩ := hr7
  have hbl := hb.lt
  have ha7 := ha.ch hc7 (fun k hk hm => hab k hk (by simpa using hm))
  refine TL.done ?_
  refine Thn.go ?_
  refine TC.seq ?_
  refine TC.region ?_
  refine TL.move rfl rfl ?_
  refine TL.move rfl rfl ?_
  refine TL.nilCheck rfl rfl ?_
  refine TL.fieldAddr fd48k1 rfl rfl ?_
  refine TL.load pl37 rfl (hb.cell _) rfl ?_
  refine TL.move rfl rfl ?_
  refine TL.appendD sl37 rfl rfl rfl hown (News.ofRd Tryd.underlying37 ha7 (one_u8 _)) (by omega) (by omega) (by omega) (fun v14 w14 hv14 hc14 hn14 => ?_)
  have hb14 : Has w14 b #[.pointer (some ⟨b, 0, none⟩), v] 48 (0, 0) := hb.ch hc14 (by simp [blk]; exact hne)
  have hne14 := Lib.ownBlock_ne hv14 hb14 (by decide)
  obtain ⟨a14, c14, rfl, _⟩ := hv14.shape
  refine TL.nilCheck rfl rfl ?_
  refine TL.fieldAddr fd48k1 rfl rfl ?_
  refine TL.store sz37 rfl rfl rfl (hb14) (by first | omega | simp [Value.cells]) (by simp [Value.cells, Value.oneCell']) (.inl rfl) (fun ws1 hbs1 hcs1 hzs1 => ?_)
  replace hbs1 := hbs1.setOne rfl (by simp)
  refine TL.done ?_
  refine Thn.go ?_
  refine TC.seq ?_
  refine TC.region ?_
  refine TL.move rfl rfl ?_
  refine TL.lenSlice Tryd.underlying37 rfl rfl ?_
  refine TL.assign rfl rfl ?_
  refine TL.assign rfl rfl ?_
  refine TL.done ?_
  refine Thn.go ?_
  refine TC.ret ?_
  refine Ends.ret [4, 5] rfl rfl ?_
  refine ⟨⟨_, ⟨_, .inr rfl, hbs1, by rw [List.length_append, List.map_append]; exact Own.ch hv14 hcs1 (by intro k hk hm; simp at hm; subst hm; exact hne14 hk), hne14⟩, fun k hk => ?_⟩, ?_⟩
  · rcases hn14 k hk with h7 | h7
    · exact .inl h7
    · right; have := hc7.size; omega
  · exact (hc7.trans hc14 (fun x h _ => by simp at h; simp [h]) (fun x h _ => List.mem_cons_of_mem _ h) : Ch (b :: blk v) w w14).trans hcs1 (fun x h _ => h) (fun x h _ => by simp at h; simp [h])

theorem fn24 (b : Nat) (v : Value) (l m : List UInt8) (w : World) (h : Bd b v l w) (hl : l.length + m.length ≤ 1099511627776) : Rets Tryd.prog 24 #[.pointer (some ⟨b, 0, none⟩), str m] w (fun _ w' => (∃ v', Bd b v' (l ++ m) w' ∧ ∀ k, v'.ownBlock = some k → v.ownBlock = some k ∨ w.heap.size ≤ k) ∧ Ch (b :: blk v) w w') := by
  have hmm : maxLen = 9223372036854775807 := rfl
  refine Rets.of (n := 19) (vs := [_, _]) Tryd.func24 rfl rfl rfl ?_
  refine TC.seq ?_
  refine TC.region ?_
  refine TL.assign rfl rfl ?_
  refine TL.assign rfl rfl ?_
  refine TL.done ?_
  refine Thn.go ?_
  refine TC.seq ?_
  refine TC.region ?_
  refine TL.move rfl rfl ?_
  refine TL.call can39 rfl rfl (fn39 b v l w h) (fun v7 w7 hr7 => ?_)
  obtain ⟨⟨hb, hown, hne⟩, hc7⟩ := hr7
  have hbl := hb.lt
  refine TL.done ?_
  refine Thn.go ?_
  refine TC.seq ?_
  refine TC.region ?_
  refine TL.move rfl rfl ?_
  refine TL.move rfl rfl ?_
  refine TL.nilCheck rfl rfl ?_
  refine TL.fieldAddr fd48k1 rfl rfl ?_
  refine TL.load pl37 rfl (hb.cell _) rfl ?_
  refine TL.move rfl rfl ?_
  refine TL.appendD sl37 rfl rfl rfl hown (News.ofString Tryd.underlying9) (by omega) (by omega) (by omega) (fun v14 w14 hv14 hc14 hn14 => ?_)
  have hb14 : Has w14 b #[.pointer (some ⟨b, 0, none⟩), v] 48 (0, 0) := hb.ch hc14 (by simp [blk]; exact hne)
  have hne14 := Lib.ownBlock_ne hv14 hb14 (by decide)
  obtain ⟨a14, c14, rfl, _⟩ := hv14.shape
  refine TL.nilCheck rfl rfl ?_
  refine TL.fieldAddr fd48k1 rfl rfl ?_
  refine TL.store sz37 rfl rfl rfl (hb14) (by first | omega | simp [Value.cells]) (by simp [Value.cells, Value.oneCell']) (.inl rfl) (fun ws1 hbs1 hcs1 hzs1 => ?_)
  replace hbs1 := hbs1.setOne rfl (by simp)
  refine TL.done ?_
  refine Thn.go ?_
  refine TC.seq ?_
  refine TC.region ?_
  refine TL.move rfl rfl ?_
  refine TL.lenStr Tryd.underlying9 rfl rfl ?_
  refine TL.assign rfl rfl ?_
  refine TL.assign rfl rfl ?_
  refine TL.done ?_
  refine Thn.go ?_
  refine TC.ret ?_
  refine Ends.ret [4, 5] rfl rfl ?_
  refine ⟨⟨_, ⟨_, .inr rfl, hbs1, by rw [List.length_append, List.map_append]; exact Own.ch hv14 hcs1 (by intro k hk hm; simp at hm; subst hm; exact hne14 hk), hne14⟩, fun k hk => ?_⟩, ?_⟩
  · rcases hn14 k hk with h7 | h7
    · exact .inl h7
    · right; have := hc7.size; omega
  · exact (hc7.trans hc14 (fun x h _ => by simp at h; simp [h]) (fun x h _ => List.mem_cons_of_mem _ h) : Ch (b :: blk v) w w14).trans hcs1 (fun x h _ => h) (fun x h _ => by simp at h; simp [h])

theorem fn26 (b : Nat) (v : Value) (l : List UInt8) (w : World) (h : Bd b v l w) : Rets Tryd.prog 26 #[.pointer (some ⟨b, 0, none⟩)] w (fun r w' => r = .int .i64 (l.length : Int) ∧ w' = w) := by
  obtain ⟨p, hp, hb, hown, hne⟩ := h
  obtain ⟨va, vc, rfl, _⟩ := hown.shape
  refine Rets.of (n := 8) (vs := [_]) Tryd.func26 rfl rfl rfl ?_
  refine TC.seq ?_
  refine TC.region ?_
  refine TL.assign rfl rfl ?_
  refine TL.done ?_
  refine Thn.go ?_
  refine TC.seq ?_
  refine TC.region ?_
  refine TL.move rfl rfl ?_
  refine TL.nilCheck rfl rfl ?_
  refine TL.fieldAddr fd48k1 rfl rfl ?_
  refine TL.load pl37 rfl (hb.cell 1) rfl ?_
  refine TL.lenSlice Tryd.underlying37 rfl rfl ?_
  refine TL.assign rfl rfl ?_
  refine TL.done ?_
  refine Thn.go ?_
  refine TC.ret ?_
  refine Ends.ret [2] rfl rfl ?_
  exact ⟨rfl, rfl⟩

theorem fn27 (b : Nat) (v : Value) (l : List UInt8) (w : World) (h : Bd b v l w) : Rets Tryd.prog 27 #[.pointer (some ⟨b, 0, none⟩)] w (fun r w' => r = str l ∧ Below b w w') := by
  have hB := h.lt
  obtain ⟨p, hp, hb, hown, hne⟩ := h
  have hi : Lib.IsBuilder 48 5 b b (Lib.byteCells l) w := by
    rcases hp with rfl | rfl
    · exact .inl ⟨Nat.le_refl _, v, hb, by rw [show (Lib.byteCells l).length = l.length from by simp [Lib.byteCells]]; exact hown, hne⟩
    · exact .inr ⟨Nat.le_refl _, v, hb, by rw [show (Lib.byteCells l).length = l.length from by simp [Lib.byteCells]]; exact hown, hne⟩
  exact (Tryd.Builder_String_any b b l w hi (by omega)).mono fun _ _ ⟨he, hb⟩ => ⟨_, he, rfl, hb⟩

