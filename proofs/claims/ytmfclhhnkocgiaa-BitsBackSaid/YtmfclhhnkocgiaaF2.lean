/-
  Walks through the given program: each theorem fnN says what the call of function N of the translation hands back, for all arguments that its premises describe, and that nothing that was there has turned.
-/
import Derived.Test.YtmfclhhnkocgiaaF1
import Derived.Test.YtmfclhhnkocgiaaNum
import Derived.Test.YtmfclhhnkocgiaaLaneE
namespace Go.Proofs.Ytmfclhhnkocgiaa
open Go.Lane
theorem ag53 : AggT Try.prog 53 8 := ⟨⟨_, Try.underlying53, rfl⟩, by kernel_rfl⟩
theorem ar53 : ArrT Try.prog 53 8 5 1 := ⟨Try.underlying53, by kernel_rfl, by decide⟩
theorem sz5 : (Try.prog.info? 5).map (·.size) = some 1 := by kernel_rfl
theorem sz53 : (Try.prog.info? 53).map (·.size) = some 8 := by kernel_rfl
theorem ze53 : ZeroT Try.prog 53 (.agg (Array.replicate 8 (.int .u8 0))) := by unfold ZeroT; kernel_rfl
theorem can12 : Callable Try.prog 12 := ⟨Try.f12, Try.func12, by kernel_rfl, rfl⟩
theorem can13 : Callable Try.prog 13 := ⟨Try.f13, Try.func13, by kernel_rfl, rfl⟩
theorem can14 : Callable Try.prog 14 := ⟨Try.f14, Try.func14, by kernel_rfl, rfl⟩
theorem can27 : Callable Try.prog 27 := ⟨Try.f27, Try.func27, by kernel_rfl, rfl⟩

theorem fn27 (a b : Value) (l m : List UInt8) (w : World) (ha : Rd w a 1 l.length (l.map u8)) (hb : Rd w b 1 m.length (m.map u8)) : Rets Try.prog 27 #[a, b] w (fun v w' => v = .bool (decide (l = m)) ∧ w' = w) := by
  refine Rets.of (n := 10) (vs := [_, _]) Try.func27 rfl rfl rfl ?_
  refine TC.seq ?_
  refine TC.region ?_
  refine TL.assign rfl rfl ?_
  refine TL.done ?_
  refine Thn.go ?_
  refine TC.seq ?_
  refine TC.region ?_
  refine TL.move rfl rfl ?_
  refine TL.bytesToStr Try.underlying22 Try.underlying5 Try.underlying9 rfl (ha) rfl ?_
  refine TL.move rfl rfl ?_
  refine TL.bytesToStr Try.underlying22 Try.underlying5 Try.underlying9 rfl (hb) rfl ?_
  refine TL.eqlStr rfl rfl rfl ?_
  refine TL.assign rfl rfl ?_
  refine TL.done ?_
  refine Thn.go ?_
  refine TC.ret ?_
  refine Ends.ret [4] rfl rfl ?_
  exact ⟨rfl, rfl⟩

theorem fn13 (n : UInt64) (w : World) : Rets Try.prog 13 #[u64 n] w (fun v w' => Own w' w.heap.size 5 1 v (Bits.small n.toNat).length ((Bits.small n.toNat).map u8) ∧ Ch [] w w') := by
  have hten := Bits.small_len64 n
  refine Rets.of (n := 19) (vs := [_]) Try.func13 rfl rfl rfl ?_
  refine TC.seq ?_
  refine TC.region ?_
  refine TL.assign rfl rfl ?_
  refine TL.done ?_
  refine Thn.go ?_
  refine TC.seq ?_
  refine TC.region ?_
  refine TL.assign rfl rfl ?_
  refine TL.done ?_
  refine Thn.go ?_
  refine TC.seq ?_
  refine TC.block ?_
  refine TC.loop3 (fun (x : UInt64) (v : Value) (_ : List UInt8) => [(0, u64 x), (3, v)]) (fun x v l w' => Own w' w.heap.size 5 1 v l.length (l.map u8) ∧ l ++ Bits.small x.toNat = Bits.small n.toNat ∧ Ch [] w w') (fun x _ _ => x.toNat) n (.slice none 0 0) [] (by repeat (first | exact trivial | refine ⟨rfl, ?_⟩)) (⟨World.ownsRow_nil _ _ _ _, rfl, Ch.refl _ _⟩) (fun x v l w' hH => ?_)
  obtain ⟨hown, hpre, hch⟩ := hH
  have hlen : l.length + (Bits.small x.toNat).length ≤ 10 := by rw [← List.length_append, hpre]; exact hten
  have hmx : maxLen = 9223372036854775807 := rfl
  have hsz := hch.size
  refine TC.seq ?_
  refine TC.seq ?_
  refine TC.region ?_
  refine TL.move rfl rfl ?_
  refine TL.gtr rfl rfl rfl ?_
  refine TL.done ?_
  refine Thn.go ?_
  refine TC.condP rfl (fun h1 => ?_) (fun h1 => ?_)
  ·
    have h7 := Bits.sh7 x
    have hsm := Bits.small_ge (n := x.toNat) (by omega)
    refine TC.skip ?_
    refine Thn.go ?_
    refine TC.seq ?_
    refine TC.block ?_
    refine TC.region ?_
    refine TL.move rfl rfl ?_
    refine TL.move rfl rfl ?_
    refine TL.conv_u8 Try.underlying28 Try.underlying5 rfl rfl ?_
    refine TL.or_u8 (b := 128) rfl rfl rfl ?_
    refine TL.buildSlice [.tmp 11] sl22 rfl rfl rfl (by decide) (by simp [Value.cells]) rfl (fun w12 hb12 hc12 hz12 => ?_)
    refine TL.append sl22 rfl rfl rfl (hown.ch0 hc12) (News.ofRd Try.underlying22 (Rd.byte _ hb12) (one_byte _)) (by omega) (by omega) (by omega) (fun v13 w13 hv13 hc13 _ => ?_)
    refine TL.assign rfl rfl ?_
    refine TL.done ?_
    refine Blk.go ?_
    refine Thn.go ?_
    refine TC.region ?_
    refine TL.move rfl rfl ?_
    refine TL.shr_u64 rfl rfl (by decide) rfl ?_
    refine TL.assign rfl rfl ?_
    refine TL.done ?_
    refine Lp.go ((UInt64.ofNat (x.toNat / 2 ^ (7 : Int).toNat), v13, l ++ [UInt8.ofNat (x.toNat % 128 + 128)])) (by repeat (first | exact trivial | refine ⟨rfl, ?_⟩)) (?_) (by show (UInt64.ofNat (x.toNat / 2 ^ (7 : Int).toNat)).toNat < x.toNat; rw [h7]; omega)
    have hs := hc12.size
    rw [← Bits.byte_or]
    exact ⟨by rw [List.length_append, List.map_append]; exact hv13, by show (l ++ _) ++ Bits.small (UInt64.ofNat (x.toNat / 2 ^ (7 : Int).toNat)).toNat = _; rw [Bits.sh7, Bits.byte_or, ← hpre, hsm, List.append_assoc]; rfl, (hown.ch0 hc12).thenCh (hch.trans0 hc12) hc13⟩
  ·
    have hsm := Bits.small_lt (n := x.toNat) (by omega)
    refine TC.exit ?_
    refine Thn.exit ?_
    refine Lp.exit ?_
    refine Blk.hit ?_
    refine Thn.go ?_
    refine TC.seq ?_
    refine TC.region ?_
    refine TL.move rfl rfl ?_
    refine TL.move rfl rfl ?_
    refine TL.conv_u8 Try.underlying28 Try.underlying5 rfl rfl ?_
    refine TL.buildSlice [.tmp 16] sl22 rfl rfl rfl (by decide) (by simp [Value.cells]) rfl (fun w17 hb17 hc17 hz17 => ?_)
    refine TL.append sl22 rfl rfl rfl (hown.ch0 hc17) (News.ofRd Try.underlying22 (Rd.byte _ hb17) (one_byte _)) (by omega) (by omega) (by omega) (fun v18 w18 hv18 hc18 _ => ?_)
    refine TL.assign rfl rfl ?_
    refine TL.done ?_
    refine Thn.go ?_
    refine TC.ret ?_
    refine Ends.ret [2] rfl rfl ?_
    exact ⟨by rw [← hpre, hsm, List.length_append, List.map_append]; exact hv18, (hown.ch0 hc17).thenCh (hch.trans0 hc17) hc18⟩

theorem fn14 (n : UInt64) (w : World) : Rets Try.prog 14 #[u64 n] w (fun v w' => ∃ b, v = .slice (some ⟨b, 0, none⟩) 8 8 ∧ w.heap.size ≤ b ∧ Has w' b ((Bits.put n).map u8).toArray 53 (0, 0) ∧ Ch [] w w') := by
  refine Rets.of (n := 19) (vs := [_]) Try.func14 rfl rfl rfl ?_
  refine TC.seq ?_
  refine TC.region ?_
  refine TL.assign rfl rfl ?_
  refine TL.done ?_
  refine Thn.go ?_
  refine TC.seq ?_
  refine TC.region ?_
  refine TL.alloc ze53 rfl (fun w3 hb3 hc3 hz3 => ?_)
  refine TL.done ?_
  refine Thn.go ?_
  refine TC.seq ?_
  refine TC.seq ?_
  refine TC.region ?_
  refine TL.move rfl rfl ?_
  refine TL.done ?_
  refine Thn.go ?_
  refine TC.block ?_
  refine TC.loop1 (fun (k : Nat) => [(0, u64 n), (3, .pointer (some ⟨w.heap.size, 0, none⟩)), (6, .int .i64 (k : Int))]) (fun k w' => k ≤ 8 ∧ ∃ cur, cur.size = 8 ∧ (∀ j, j < k → cur[j]? = some (u8 (Bits.pb n j))) ∧ Has w' w.heap.size cur 53 (0, 0) ∧ Ch [] w w') (fun k => 8 - k) 0 (by repeat (first | exact trivial | refine ⟨rfl, ?_⟩)) (⟨by omega, _, by rfl, by intro j hj; omega, hb3, hc3⟩) (fun k w' hH => ?_)
  obtain ⟨hk, cur, hcs, hget, hb, hch⟩ := hH
  refine TC.seq ?_
  refine TC.region ?_
  refine TL.lss rfl rfl rfl ?_
  refine TL.done ?_
  refine Thn.go ?_
  refine TC.seq ?_
  refine TC.condP rfl (fun h1 => ?_) (fun h1 => ?_)
  ·
    refine TC.skip ?_
    refine Thn.go ?_
    refine TC.seq ?_
    refine TC.block ?_
    refine TC.seq ?_
    refine TC.region ?_
    refine TL.move rfl rfl ?_
    refine TL.assign rfl rfl ?_
    refine TL.done ?_
    refine Thn.go ?_
    refine TC.region ?_
    refine TL.move rfl rfl ?_
    refine TL.move rfl rfl ?_
    refine TL.move rfl rfl ?_
    refine TL.mul_i64 rfl rfl (by omega) (by omega) rfl ?_
    refine TL.shr_u64 rfl rfl (by omega) rfl ?_
    refine TL.conv_u8 Try.underlying28 Try.underlying5 rfl rfl ?_
    refine TL.indexArr (k) ar53 rfl rfl (by first | rfl | omega) (by omega) rfl ?_
    refine TL.store sz5 rfl rfl rfl (hb) (by first | omega | simp [Value.cells]) (by simp [Value.cells, Value.oneCell']) (.inl rfl) (fun ws1 hbs1 hcs1 hzs1 => ?_)
    replace hbs1 := hbs1.setOne rfl (by omega)
    refine TL.done ?_
    refine Blk.go ?_
    refine Thn.go ?_
    refine TC.region ?_
    refine TL.add_i64 rfl rfl (by omega) (by omega) rfl ?_
    refine TL.move rfl rfl ?_
    refine TL.done ?_
    refine Lp.go (k + 1) (by repeat (first | exact trivial | refine ⟨rfl, ?_⟩)) ?_ (by first | omega | (dsimp only; omega))
    refine ⟨by omega, _, by simp [hcs], fun j hj => ?_, hbs1, hch.then1 hcs1 (Nat.le_refl _)⟩
    simp only [Array.getElem?_setIfInBounds]
    by_cases hjk : 0 + k * 1 = j
    · rw [if_pos hjk, if_pos (by omega)]
      have hjk' : k = j := by omega
      subst hjk'
      rfl
    · rw [if_neg hjk]; exact hget j (by omega)
  ·
    have hk8 : k = 8 := by omega
    subst hk8
    have hcur : cur = ((Bits.put n).map u8).toArray := by
      apply Array.ext_getElem?
      intro j
      rcases Nat.lt_or_ge j 8 with hj | hj
      · rw [hget j hj]; simp [Bits.put, hj]
      · rw [Array.getElem?_eq_none (by omega), Array.getElem?_eq_none (by simp [Bits.put]; omega)]
    subst hcur
    refine TC.exit ?_
    refine Thn.exit ?_
    refine Lp.exit ?_
    refine Blk.hit ?_
    refine Thn.go ?_
    refine TC.seq ?_
    refine TC.region ?_
    refine TL.loadAgg ((Bits.put n).map u8) ag53 rfl rfl (fun j _ => by rw [hb.cell, Nat.zero_add, List.getElem?_toArray]) rfl ?_
    refine TL.alloc ze53 rfl (fun w5 hb5 hc5 hz5 => ?_)
    refine TL.store sz53 rfl rfl rfl (hb5) (by first | omega | simp [Value.cells]) (by exact one_u8 _) (.inl rfl) (fun ws2 hbs2 hcs2 hzs2 => ?_)
    replace hbs2 := hbs2.setAll (by simp [Bits.put_len, Value.cells])
    refine TL.done ?_
    refine Thn.go ?_
    refine TC.seq ?_
    refine TC.region ?_
    refine TL.sliceArr ar53 rfl rfl ?_
    refine TL.assign rfl rfl ?_
    refine TL.done ?_
    refine Thn.go ?_
    refine TC.ret ?_
    refine Ends.ret [2] rfl rfl ?_
    exact ⟨_, rfl, hch.size, hbs2, hch.trans0 (hc5.then1 hcs2 (Nat.le_refl _))⟩

theorem fn11 (w : World) : Rets Try.prog 11 #[] w (fun v w' => v = .bool true ∧ Ch [] w w') := by
  refine Rets.of (n := 10) (vs := []) Try.func11 rfl rfl rfl ?_
  refine TC.seq ?_
  refine TC.region ?_
  refine TL.assign rfl rfl ?_
  refine TL.done ?_
  refine Thn.go ?_
  refine TC.seq ?_
  refine TC.region ?_
  refine TL.call can14 rfl rfl (fn14 258 _) (fun v1 w1 hr1 => ?_)
  obtain ⟨b1, rfl, hb1, hh1, hc1⟩ := hr1
  refine TL.buildSlice (vs := [2, 1, 0, 0, 0, 0, 0, 0].map u8) [.const (Value.int IntKind.u8 2), .const (Value.int IntKind.u8 1), .const (Value.int IntKind.u8 0), .const (Value.int IntKind.u8 0), .const (Value.int IntKind.u8 0), .const (Value.int IntKind.u8 0), .const (Value.int IntKind.u8 0), .const (Value.int IntKind.u8 0)] sl22 rfl rfl rfl (by decide) (by simp [Value.cells]) rfl (fun w2 hb2 hc2 hz2 => ?_)
  refine TL.call can27 rfl rfl (fn27 _ _ (Bits.put 258) [2, 1, 0, 0, 0, 0, 0, 0] w2 (Rd.ofHas (hh1.ch0 hc2) (by decide) (by simp [Bits.put_len]) rfl) (Rd.ofBytes _ hb2 (by decide))) (fun v3 w3 hr3 => ?_)
  obtain ⟨rfl, rfl⟩ := hr3
  refine TL.yes (by decide) ?_
  refine TL.move rfl rfl ?_
  refine TL.guardYes (d := 4) rfl rfl rfl ?_
  refine TL.buildSlice (vs := [49, 50, 51, 52, 53, 54, 55, 56, 57].map u8) [.const (Value.int IntKind.u8 49), .const (Value.int IntKind.u8 50), .const (Value.int IntKind.u8 51), .const (Value.int IntKind.u8 52), .const (Value.int IntKind.u8 53), .const (Value.int IntKind.u8 54), .const (Value.int IntKind.u8 55), .const (Value.int IntKind.u8 56), .const (Value.int IntKind.u8 57)] sl22 rfl rfl rfl (by decide) (by simp [Value.cells]) rfl (fun w5 hb5 hc5 hz5 => ?_)
  refine TL.guardYes (d := 4) rfl rfl rfl ?_
  refine TL.markBytes Try.underlying22 Try.underlying5 rfl (hb5) rfl (fun w6 hb6 hc6 hz6 => ?_)
  refine TL.guardYes (d := 4) rfl rfl rfl ?_
  refine TL.call can12 rfl rfl (fn12 w6 _ [49, 50, 51, 52, 53, 54, 55, 56, 57] (Rd.ofBytes _ hb6 (by decide))) (fun v7 w7 hr7 => ?_)
  obtain ⟨rfl, hc7⟩ := hr7
  refine TL.guardYes (d := 4) rfl rfl rfl ?_
  refine TL.eql rfl rfl rfl ?_
  refine TL.yes (by decide) ?_
  refine TL.pickT rfl rfl rfl rfl ?_
  refine TL.assign rfl rfl ?_
  refine TL.done ?_
  refine Thn.go ?_
  refine TC.ret ?_
  refine Ends.ret [0] rfl rfl ?_
  exact ⟨rfl, ((hc1.trans0 hc2).trans0 (hc5.then1 hc6 (Nat.le_refl _))).trans0 hc7⟩

end Go.Proofs.Ytmfclhhnkocgiaa

