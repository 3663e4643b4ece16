/-
  Walks through the given program: each theorem fnN says what the call of function N of the translation hands back, for all arguments that its premises describe, and that nothing that was there has turned.
-/
import Derived.Test.YtcoaophfojkldaaProg
import Derived.Test.YtcoaophfojkldaaLaneH
import Derived.Test.YtcoaophfojkldaaShelf
import Derived.Test.YtcoaophfojkldaaHex
import Derived.KernelRfl
namespace Go.Proofs.Ytcoaophfojkldaa
open Go.Lane
open Go.RowKit (Below)
theorem mixed0 : Try.prog.follows .mixedOrders = true := by kernel_rfl
theorem can38 : Callable Try.prog 38 := ⟨Try.f38, Try.func38, by kernel_rfl, rfl⟩
theorem can39 : Callable Try.prog 39 := ⟨Try.f39, Try.func39, by kernel_rfl, rfl⟩
theorem can40 : Callable Try.prog 40 := ⟨Try.f40, Try.func40, by kernel_rfl, rfl⟩
theorem can54 : Callable Try.prog 54 := ⟨Try.f54, Try.func54, by kernel_rfl, rfl⟩
theorem fd63k0 : FieldT Try.prog 63 0 61 0 1 := ⟨_, _, Try.underlying63, rfl, rfl, rfl, by kernel_rfl, by decide⟩
theorem fd63k1 : FieldT Try.prog 63 1 50 1 1 := ⟨_, _, Try.underlying63, rfl, rfl, rfl, by kernel_rfl, by decide⟩
theorem pl5 : Plain Try.prog 5 := ⟨_, Try.underlying5, rfl⟩
theorem pl50 : Plain Try.prog 50 := ⟨_, Try.underlying50, rfl⟩
theorem pl61 : Plain Try.prog 61 := ⟨_, Try.underlying61, rfl⟩
theorem sl50 : SliceT Try.prog 50 5 1 1 (.int .u8 0) := SliceT.mk' Try.underlying50 (by kernel_rfl) rfl rfl
theorem sz5 : (Try.prog.info? 5).map (·.size) = some 1 := by kernel_rfl
theorem sz50 : (Try.prog.info? 50).map (·.size) = some 1 := by kernel_rfl
theorem sz61 : (Try.prog.info? 61).map (·.size) = some 1 := by kernel_rfl
theorem sz63 : (Try.prog.info? 63).map (·.size) = some 2 := by kernel_rfl
theorem ze63 : ZeroT Try.prog 63 (.agg #[.pointer none, .slice none 0 0]) := by unfold ZeroT; kernel_rfl
theorem lies63 : liesAt Try.prog Try.prog.depth 63 (2 / Try.prog.cellsOf 63) 0 63 1 = true := by kernel_rfl

/-- A builder at block 'b', its bytes so far. -/
def Bld (b : Nat) (l : List UInt8) (w : World) : Prop := Lib.IsBuilder 63 5 b b (l.map u8) w

theorem fn54 (b : Nat) (bs : List Value) (w : World) (h : Lib.IsBuilder 63 5 b b bs w) : Rets Try.prog 54 #[.pointer (some ⟨b, 0, none⟩)] w (fun _ w' => Lib.BuilderAt 63 5 b b (.pointer (some ⟨b, 0, none⟩)) bs w' ∧ Ch [b] w w') := by
  obtain ⟨p, hp, hB, v, hb, hown, hne⟩ : ∃ p : Option Addr, (p = none ∨ p = some ⟨b, 0, none⟩) ∧ Lib.BuilderAt 63 5 b b (.pointer p) bs w := by
    rcases h with h | h
    · exact ⟨_, .inl rfl, h⟩
    · exact ⟨_, .inr rfl, h⟩
  replace hb : Has w b #[.pointer p, v] 63 (0, 0) := hb
  have hsh : w.shape? b = some (63, 2) := Lib.BuilderAt.shape ⟨hB, v, hb, hown, hne⟩
  obtain ⟨j, hj, hjs⟩ := Option.map_eq_some_iff.1 sz63
  refine Rets.of (n := 20) (vs := [_]) Try.func54 rfl rfl rfl ?_
  refine TC.seq ?_
  refine TC.region ?_
  refine TL.move rfl rfl ?_
  refine TL.nilCheck rfl rfl ?_
  refine TL.fieldAddr fd63k0 rfl rfl ?_
  refine TL.load pl61 rfl (hb.cell _) rfl ?_
  refine TL.eqlPtrNil Try.underlying61 rfl rfl rfl ?_
  refine TL.done ?_
  refine Thn.go ?_
  refine TC.condP rfl (fun h1 => ?_) (fun h1 => ?_)
  ·
    subst h1
    refine TC.region ?_
    refine TL.move rfl rfl ?_
    refine TL.move rfl rfl ?_
    refine TL.toUnsafe Try.underlying61 Try.underlying98 hj (by omega) hsh (by decide) rfl rfl ?_
    refine TL.modelFn (v := .pointer (some ⟨b, 0, none⟩)) Try.func65 (by kernel_rfl) (by kernel_rfl) (by kernel_rfl) (e := Extern.AbiNoEscape.same) (by kernel_rfl) rfl (Lib.run_noEscape _ _) rfl ?_
    refine TL.fromUnsafe Try.underlying98 Try.underlying61 hj hsh lies63 rfl rfl ?_
    refine TL.nilCheck rfl rfl ?_
    refine TL.fieldAddr fd63k0 rfl rfl ?_
    refine TL.store sz61 rfl rfl rfl (hb) (by first | omega | simp [Value.cells]) (by simp [Value.cells, Value.oneCell']) (.inl rfl) (fun ws1 hbs1 hcs1 hzs1 => ?_)
    replace hbs1 := hbs1.setOne rfl (by simp)
    refine TL.done ?_
    refine Ends.normal [] rfl rfl ?_
    exact ⟨⟨hB, v, hbs1, Own.ch hown hcs1 (by intro k hk hm; simp at hm; subst hm; exact hne hk), hne⟩, hcs1⟩
  ·
    obtain rfl := hp.resolve_left h1
    refine TC.seq ?_
    refine TC.region ?_
    refine TL.move rfl rfl ?_
    refine TL.nilCheck rfl rfl ?_
    refine TL.fieldAddr fd63k0 rfl rfl ?_
    refine TL.load pl61 rfl (hb.cell _) rfl ?_
    refine TL.move rfl rfl ?_
    refine TL.neqPtrSame Try.underlying61 hj rfl rfl rfl ?_
    refine TL.done ?_
    refine Thn.go ?_
    refine TC.condF rfl rfl ?_
    refine TC.skip ?_
    refine Ends.normal [] rfl rfl ?_
    exact ⟨⟨hB, v, hb, hown, hne⟩, Ch.refl _ _⟩

theorem fn38 (b : Nat) (l : List UInt8) (c : UInt8) (w : World) (h : Bld b l w) (hl : l.length ≤ 1099511627776) : Rets Try.prog 38 #[.pointer (some ⟨b, 0, none⟩), u8 c] w (fun _ w' => Bld b (l ++ [c]) w' ∧ Below b w w') := by
  have hmm : maxLen = 9223372036854775807 := rfl
  refine Rets.of (n := 17) (vs := [_, _]) Try.func38 rfl rfl rfl ?_
  refine TC.seq ?_
  refine TC.region ?_
  refine TL.assign rfl rfl ?_
  refine TL.done ?_
  refine Thn.go ?_
  refine TC.seq ?_
  refine TC.region ?_
  refine TL.move rfl rfl ?_
  refine TL.call can54 rfl rfl (fn54 b _ w h) (fun v6 w6 hr6 => ?_)
  obtain ⟨⟨hB, v, hb, hown, hne⟩, hc6⟩ := hr6
  replace hb : Has w6 b #[.pointer (some ⟨b, 0, none⟩), v] 63 (0, 0) := hb
  rw [List.length_map] at hown
  have hbl := hb.lt
  have hown' : Own w6 b 5 1 v l.length (l.map u8) := hown
  refine TL.done ?_
  refine Thn.go ?_
  refine TC.seq ?_
  refine TC.region ?_
  refine TL.move rfl rfl ?_
  refine TL.move rfl rfl ?_
  refine TL.nilCheck rfl rfl ?_
  refine TL.fieldAddr fd63k1 rfl rfl ?_
  refine TL.load pl50 rfl (hb.cell _) rfl ?_
  refine TL.move rfl rfl ?_
  refine TL.buildSlice [.tmp 12] sl50 rfl rfl rfl (by decide) (by first | simp [Value.cells]; done | simp [Value.cells, cl_len]; done) rfl (fun w13 hb13 hc13 hz13 => ?_)
  refine TL.append sl50 rfl rfl rfl (hown'.ch0 hc13) (News.ofRd Try.underlying50 (Rd.byte _ hb13) (one_byte _)) (by omega) (by omega) (by omega) (fun v14 w14 hv14 hc14 _ => ?_)
  have hb14 : Has w14 b #[.pointer (some ⟨b, 0, none⟩), v] 63 (0, 0) := (hb.ch0 hc13).ch hc14 (by simp [blk]; exact hne)
  have hne14 := Lib.ownBlock_ne hv14 hb14 (by decide)
  obtain ⟨a14, c14, rfl, _⟩ := hv14.shape
  refine TL.nilCheck rfl rfl ?_
  refine TL.fieldAddr fd63k1 rfl rfl ?_
  refine TL.store sz50 rfl rfl rfl (hb14) (by first | omega | simp [Value.cells]) (by simp [Value.cells, Value.oneCell']) (.inl rfl) (fun ws1 hbs1 hcs1 hzs1 => ?_)
  replace hbs1 := hbs1.setOne rfl (by simp)
  refine TL.done ?_
  refine Thn.go ?_
  refine TC.seq ?_
  refine TC.region ?_
  refine TL.assign rfl rfl ?_
  refine TL.done ?_
  refine Thn.go ?_
  refine TC.ret ?_
  refine Ends.ret [4] rfl rfl ?_
  refine ⟨.inr ⟨hB, _, hbs1, by rw [List.length_map, List.length_append, List.map_append]; exact Own.ch hv14 hcs1 (by intro k hk hm; simp at hm; subst hm; exact hne14 hk), hne14⟩, ?_⟩
  have e1 : Below b w w6 := hc6.toBelow (by simp) (by have := h.elim Lib.BuilderAt.lt Lib.BuilderAt.lt; omega)
  have e2 : Below b w6 w13 := hc13.toBelow (by simp) (by omega)
  have e3 : Below b w13 w14 := hc14.toBelow (by intro x hx; exact hown'.ge x (by simpa [blk] using hx)) (by have := hc13.size; omega)
  have e4 : Below b w14 ws1 := hcs1.toBelow (by simp) (by have := hb14.lt; omega)
  exact ((e1.trans e2).trans e3).trans e4

theorem fn39 (n : UInt8) (w : World) (h : n.toNat < 16) : Rets Try.prog 39 #[u8 n] w (fun v w' => v = u8 (Hex.hx n.toNat) ∧ w' = w) := by
  refine Rets.of (n := 5) (vs := [_]) Try.func39 rfl rfl rfl ?_
  refine TC.seq ?_
  refine TC.region ?_
  refine TL.assign rfl rfl ?_
  refine TL.done ?_
  refine Thn.go ?_
  refine TC.seq ?_
  refine TC.region ?_
  refine TL.move rfl rfl ?_
  refine TL.indexStr (l := Hex.digits) Try.underlying9 rfl rfl rfl (Hex.digits_at h) rfl ?_
  refine TL.assign rfl rfl ?_
  refine TL.done ?_
  refine Thn.go ?_
  refine TC.ret ?_
  refine Ends.ret [2] rfl rfl ?_
  exact ⟨rfl, rfl⟩

theorem fn40 (b : Nat) (l : List UInt8) (w : World) (h : Bld b l w) : Rets Try.prog 40 #[.pointer (some ⟨b, 0, none⟩)] w (fun v w' => v = str l ∧ Below b w w') :=
  (Try.Builder_String_any b b l w h (by have := h.elim Lib.BuilderAt.lt Lib.BuilderAt.lt; omega)).mono fun _ _ ⟨he, hb⟩ => ⟨_, he, rfl, hb⟩

