/-
  Walks through the given program: each theorem fnN says what the call of function N of the translation hands back, for all arguments that its premises describe, and that nothing that was there has turned.
-/
import Derived.Test.YtkgckmdhlokjmaaDoorK4
import Derived.Test.YtkgckmdhlokjmaaDoorParts
import Derived.Test.YtkgckmdhlokjmaaDoorRead
import Derived.Test.YtkgckmdhlokjmaaDoorLaneQ
namespace Go.Proofs.YtkgckmdhlokjmaaDoor
open Go.Lane
open Go.Key
theorem ag75 : AggT Tryd.prog 75 8 := ⟨⟨_, Tryd.underlying75, rfl⟩, by kernel_rfl⟩
theorem ar75 : ArrT Tryd.prog 75 8 5 1 := ⟨Tryd.underlying75, by kernel_rfl, by decide⟩
theorem av75 : ArrV Tryd.prog 75 8 5 := ⟨Tryd.underlying75, ⟨_, Tryd.underlying5, rfl⟩, by kernel_rfl⟩
theorem sz75 : (Tryd.prog.info? 75).map (·.size) = some 8 := by kernel_rfl
theorem ze75 : ZeroT Tryd.prog 75 (.agg (Array.replicate 8 (.int .u8 0))) := by unfold ZeroT; kernel_rfl

theorem fn21 (n : UInt64) (w : World) : Rets Tryd.prog 21 #[u64 n] w (fun v w' => ∃ b, v = .slice (some ⟨b, 0, none⟩) 8 8 ∧ w.heap.size ≤ b ∧ Has w' b ((Bits.put n).map u8).toArray 75 (0, 0) ∧ Ch [] w w') := by
  refine Rets.of (n := 19) (vs := [_]) Tryd.func21 rfl rfl rfl ?_
  refine TC.seq ?_
  refine TC.region ?_
  refine TL.assign rfl rfl ?_
  refine TL.done ?_
  refine Thn.go ?_
  refine TC.seq ?_
  refine TC.region ?_
  refine TL.alloc ze75 rfl (fun w3 hb3 hc3 hz3 => ?_)
  refine TL.done ?_
  refine Thn.go ?_
  refine TC.seq ?_
  refine TC.seq ?_
  refine TC.region ?_
  refine TL.move rfl rfl ?_
  refine TL.done ?_
  refine Thn.go ?_
  refine TC.block ?_
  refine TC.loop1 (fun (k : Nat) => [(0, u64 n), (3, .pointer (some ⟨w.heap.size, 0, none⟩)), (6, .int .i64 (k : Int))]) (fun k w' => k ≤ 8 ∧ ∃ cur, cur.size = 8 ∧ (∀ j, j < k → cur[j]? = some (u8 (Bits.pb n j))) ∧ Has w' w.heap.size cur 75 (0, 0) ∧ Ch [] w w') (fun k => 8 - k) 0 (by repeat (first | exact trivial | refine ⟨rfl, ?_⟩)) (⟨by omega, _, by rfl, by intro j hj; omega, hb3, hc3⟩) (fun k w' hH => ?_)
  obtain ⟨hk, cur, hcs, hget, hb, hch⟩ := hH
  refine TC.seq ?_
  refine TC.region ?_
  refine TL.lss rfl rfl rfl ?_
  refine TL.done ?_
  refine Thn.go ?_
  refine TC.seq ?_
  refine TC.condP rfl (fun h1 => ?_) (fun h1 => ?_)
  ·
    refine TC.skip ?_
    refine Thn.go ?_
    refine TC.seq ?_
    refine TC.block ?_
    refine TC.seq ?_
    refine TC.region ?_
    refine TL.move rfl rfl ?_
    refine TL.assign rfl rfl ?_
    refine TL.done ?_
    refine Thn.go ?_
    refine TC.region ?_
    refine TL.move rfl rfl ?_
    refine TL.move rfl rfl ?_
    refine TL.move rfl rfl ?_
    refine TL.mul_i64 rfl rfl (by omega) (by omega) rfl ?_
    refine TL.shr_u64 rfl rfl (by omega) rfl ?_
    refine TL.conv_u8 Tryd.underlying53 Tryd.underlying5 rfl rfl ?_
    refine TL.indexArr (k) ar75 rfl rfl (by first | rfl | omega) (by omega) rfl ?_
    refine TL.store sz5 rfl rfl rfl (hb) (by first | omega | simp [Value.cells]) (by simp [Value.cells, Value.oneCell']) (.inl rfl) (fun ws1 hbs1 hcs1 hzs1 => ?_)
    replace hbs1 := hbs1.setOne rfl (by omega)
    refine TL.done ?_
    refine Blk.go ?_
    refine Thn.go ?_
    refine TC.region ?_
    refine TL.add_i64 rfl rfl (by omega) (by omega) rfl ?_
    refine TL.move rfl rfl ?_
    refine TL.done ?_
    refine Lp.go (k + 1) (by repeat (first | exact trivial | refine ⟨rfl, ?_⟩)) ?_ (by first | omega | (dsimp only; omega))
    refine ⟨by omega, _, by simp [hcs], fun j hj => ?_, hbs1, hch.then1 hcs1 (Nat.le_refl _)⟩
    simp only [Array.getElem?_setIfInBounds]
    by_cases hjk : 0 + k * 1 = j
    · rw [if_pos hjk, if_pos (by omega)]
      have hjk' : k = j := by omega
      subst hjk'
      rfl
    · rw [if_neg hjk]; exact hget j (by omega)
  ·
    have hk8 : k = 8 := by omega
    subst hk8
    have hcur : cur = ((Bits.put n).map u8).toArray := by
      apply Array.ext_getElem?
      intro j
      rcases Nat.lt_or_ge j 8 with hj | hj
      · rw [hget j hj]; simp [Bits.put, hj]
      · rw [Array.getElem?_eq_none (by omega), Array.getElem?_eq_none (by simp [Bits.put]; omega)]
    subst hcur
    refine TC.exit ?_
    refine Thn.exit ?_
    refine Lp.exit ?_
    refine Blk.hit ?_
    refine Thn.go ?_
    refine TC.seq ?_
    refine TC.region ?_
    refine TL.loadAgg ((Bits.put n).map u8) ag75 rfl rfl (fun j _ => by rw [hb.cell, Nat.zero_add, List.getElem?_toArray]) rfl ?_
    refine TL.alloc ze75 rfl (fun w5 hb5 hc5 hz5 => ?_)
    refine TL.store sz75 rfl rfl rfl (hb5) (by first | omega | simp [Value.cells]) (by exact one_u8 _) (.inl rfl) (fun ws2 hbs2 hcs2 hzs2 => ?_)
    replace hbs2 := hbs2.setAll (by simp [Bits.put_len, Value.cells])
    refine TL.done ?_
    refine Thn.go ?_
    refine TC.seq ?_
    refine TC.region ?_
    refine TL.sliceArr ar75 rfl rfl ?_
    refine TL.assign rfl rfl ?_
    refine TL.done ?_
    refine Thn.go ?_
    refine TC.ret ?_
    refine Ends.ret [2] rfl rfl ?_
    exact ⟨_, rfl, hch.size, hbs2, hch.trans0 (hc5.then1 hcs2 (Nat.le_refl _))⟩

theorem fn34 (a : Value) (l : List UInt8) (w : World) (ha : Rd w a 1 l.length (l.map u8)) : Rets Tryd.prog 34 #[a] w (fun v w' => v = .tuple #[u64 (UInt64.ofNat (Bits.getN l)), .int .i64 (Bits.getE l : Int)] ∧ Ch [] w w') := by
  obtain ⟨ad, c, rfl, hnil⟩ := ha.shape
  have hmx : l.length ≤ 9223372036854775807 := ha.nlt
  refine Rets.of (n := 28) (vs := [_]) Tryd.func34 rfl rfl rfl ?_
  refine TC.seq ?_
  refine TC.region ?_
  refine TL.assign rfl rfl ?_
  refine TL.assign rfl rfl ?_
  refine TL.done ?_
  refine Thn.go ?_
  refine TC.seq ?_
  refine TC.seq ?_
  refine TC.region ?_
  refine TL.move rfl rfl ?_
  refine TL.lenSlice Tryd.underlying37 rfl rfl ?_
  refine TL.neq rfl rfl rfl ?_
  refine TL.done ?_
  refine Thn.go ?_
  refine TC.condP rfl (fun h1 => ?_) (fun h1 => ?_)
  ·
    have h8 : ¬ l.length = 8 := by omega
    refine TC.seq ?_
    refine TC.region ?_
    refine TL.assign rfl rfl ?_
    refine TL.assign rfl rfl ?_
    refine TL.done ?_
    refine Thn.go ?_
    refine TC.ret ?_
    refine Thn.ret ?_
    refine Ends.ret [2, 3] rfl rfl ?_
    exact ⟨by unfold Bits.getN Bits.getE; rw [if_neg h8, if_neg h8]; rfl, Ch.refl _ _⟩
  ·
    have h8 : l.length = 8 := by omega
    obtain ⟨b, off, rfl, _⟩ := ha.byteAt (i := 0) (by omega)
    refine TC.skip ?_
    refine Thn.go ?_
    refine TC.seq ?_
    refine TC.region ?_
    refine TL.move rfl rfl ?_
    refine TL.arrayPtr Tryd.underlying75 rfl (by omega) rfl ?_
    refine TL.loadAgg (l.map u8) ag75 rfl (by simpa using h8) (fun j hj => by obtain ⟨b', off', e, hc⟩ := ha.byteAt (i := j) (by omega); cases e; rw [Nat.mul_one] at hc; rw [hc, List.getElem?_map, map_getD l j 0 (by omega)]; rfl) rfl ?_
    refine TL.alloc ze75 rfl (fun w4 hb4 hc4 hz4 => ?_)
    refine TL.store sz75 rfl rfl (by simpa [Value.cells] using h8) hb4 (by simp [Value.cells]) (by simp [Value.cells, Value.oneCell']) (.inl rfl) (fun ws1 hbs1 hcs1 hzs1 => ?_)
    replace hbs1 := hbs1.setAll (by simp [Value.cells, h8])
    refine TL.done ?_
    refine Thn.go ?_
    refine TC.seq ?_
    refine TC.region ?_
    refine TL.assign rfl rfl ?_
    refine TL.done ?_
    refine Thn.go ?_
    refine TC.seq ?_
    refine TC.seq ?_
    refine TC.region ?_
    refine TL.loadAgg (l.map u8) ag75 rfl (by simpa using h8) (fun j hj => by rw [hbs1.cell, Nat.zero_add]; simp [Value.cells]) rfl ?_
    have hch : Ch [] w ws1 := hc4.then1 hcs1 (Nat.le_refl _)
    refine TL.move rfl rfl ?_
    refine TL.done ?_
    refine Thn.go ?_
    refine TC.block ?_
    refine TC.loop1 (fun (k : Nat) => [(5, u64 (UInt64.ofNat (Bits.le (l.take k)))), (14, .agg (l.map u8).toArray), (15, .int .i64 (k : Int))]) (fun k w' => k ≤ 8 ∧ w' = ws1) (fun k => 8 - k) 0 (by repeat (first | exact trivial | refine ⟨rfl, ?_⟩)) (⟨by omega, rfl⟩) (fun k w' hH => ?_)
    obtain ⟨hk, rfl⟩ := hH
    refine TC.seq ?_
    refine TC.region ?_
    refine TL.lss rfl rfl rfl ?_
    refine TL.done ?_
    refine Thn.go ?_
    refine TC.seq ?_
    refine TC.condP rfl (fun h2 => ?_) (fun h2 => ?_)
    ·
      have hkl : k < l.length := by omega
      have hb8 := UInt8.toNat_lt (l.getD k 0)
      have hle := Bits.le_lt (l.take k)
      rw [List.length_take, Nat.min_eq_left (by omega)] at hle
      refine TC.skip ?_
      refine Thn.go ?_
      refine TC.seq ?_
      refine TC.block ?_
      refine TC.seq ?_
      refine TC.region ?_
      refine TL.move rfl rfl ?_
      refine TL.index (k) av75 rfl rfl (by first | rfl | omega) (by omega) (by rw [List.getElem?_toArray, List.getElem?_map, map_getD l k 0 hkl]; rfl) rfl ?_
      refine TL.assign rfl rfl ?_
      refine TL.assign rfl rfl ?_
      refine TL.done ?_
      refine Thn.go ?_
      refine TC.region ?_
      refine TL.move rfl rfl ?_
      refine TL.move rfl rfl ?_
      refine TL.conv_u64 Tryd.underlying5 Tryd.underlying53 rfl rfl ?_
      refine TL.move rfl rfl ?_
      refine TL.mul_i64 rfl rfl (by omega) (by omega) rfl ?_
      refine TL.shl_u64 rfl rfl (by omega) rfl ?_
      refine TL.top (v' := u64 (UInt64.ofNat ((l.getD k 0).toNat * 2 ^ (8 * k)))) (by rw [Bits.shl8]) ?_
      refine TL.or_u64 rfl rfl rfl ?_
      refine TL.top (v' := u64 (UInt64.ofNat (Bits.le (l.take (k + 1))))) (by rw [(Bits.get_step hle (by omega) hb8).1, Bits.le_take hkl]) ?_
      refine TL.assign rfl rfl ?_
      refine TL.done ?_
      refine Blk.go ?_
      refine Thn.go ?_
      refine TC.region ?_
      refine TL.add_i64 rfl rfl (by omega) (by omega) rfl ?_
      refine TL.move rfl rfl ?_
      refine TL.done ?_
      refine Lp.go (k + 1) (by repeat (first | exact trivial | refine ⟨rfl, ?_⟩)) ?_ (by first | omega | (dsimp only; omega))
      exact ⟨by omega, rfl⟩
    ·
      have hk8 : k = l.length := by omega
      rw [hk8, List.take_length]
      refine TC.exit ?_
      refine Thn.exit ?_
      refine Lp.exit ?_
      refine Blk.hit ?_
      refine Thn.go ?_
      refine TC.seq ?_
      refine TC.region ?_
      refine TL.move rfl rfl ?_
      refine TL.assign rfl rfl ?_
      refine TL.assign rfl rfl ?_
      refine TL.done ?_
      refine Thn.go ?_
      refine TC.ret ?_
      refine Ends.ret [2, 3] rfl rfl ?_
      exact ⟨by unfold Bits.getN Bits.getE; rw [if_pos h8, if_pos h8]; rfl, hch⟩

theorem fn46 (a : Value) (l : List UInt8) (w : World) (ha : Rd w a 1 l.length (l.map u8)) : Rets Tryd.prog 46 #[a] w (fun v w' => v = .tuple #[u64 (UInt64.ofNat (Bits.getN l)), .int .i64 (Bits.getE l : Int)] ∧ w' = w) := by
  obtain ⟨ad, c, rfl, hnil⟩ := ha.shape
  have hmx : l.length ≤ 9223372036854775807 := ha.nlt
  refine Rets.of (n := 22) (vs := [_]) Tryd.func46 rfl rfl rfl ?_
  refine TC.seq ?_
  refine TC.region ?_
  refine TL.assign rfl rfl ?_
  refine TL.assign rfl rfl ?_
  refine TL.done ?_
  refine Thn.go ?_
  refine TC.seq ?_
  refine TC.seq ?_
  refine TC.region ?_
  refine TL.move rfl rfl ?_
  refine TL.lenSlice Tryd.underlying37 rfl rfl ?_
  refine TL.neq rfl rfl rfl ?_
  refine TL.done ?_
  refine Thn.go ?_
  refine TC.condP rfl (fun h1 => ?_) (fun h1 => ?_)
  ·
    have h8 : ¬ l.length = 8 := by omega
    refine TC.seq ?_
    refine TC.region ?_
    refine TL.assign rfl rfl ?_
    refine TL.assign rfl rfl ?_
    refine TL.done ?_
    refine Thn.go ?_
    refine TC.ret ?_
    refine Thn.ret ?_
    refine Ends.ret [2, 3] rfl rfl ?_
    exact ⟨by unfold Bits.getN Bits.getE; rw [if_neg h8, if_neg h8]; rfl, rfl⟩
  ·
    have h8 : l.length = 8 := by omega
    obtain ⟨b, off, rfl, _⟩ := ha.byteAt (i := 0) (by omega)
    refine TC.skip ?_
    refine Thn.go ?_
    refine TC.seq ?_
    refine TC.region ?_
    refine TL.assign rfl rfl ?_
    refine TL.top (v' := u64 (UInt64.ofNat (Bits.le (l.drop 8)))) (by rw [List.drop_eq_nil_of_le (by omega)]; rfl) ?_
    refine TL.done ?_
    refine Thn.go ?_
    refine TC.seq ?_
    refine TC.seq ?_
    refine TC.region ?_
    refine TL.assign rfl rfl ?_
    refine TL.top (v' := .int .i64 (((8 : Nat) : Int) - 1)) rfl ?_
    refine TL.done ?_
    refine Thn.go ?_
    refine TC.block ?_
    refine TC.loop1 (fun (j : Nat) => [(0, .slice (some ⟨b, off, none⟩) l.length c), (4, u64 (UInt64.ofNat (Bits.le (l.drop j)))), (5, .int .i64 ((j : Int) - 1))]) (fun j w' => j ≤ 8 ∧ w' = w) (fun j => j) 8 (by repeat (first | exact trivial | refine ⟨rfl, ?_⟩)) (⟨by omega, rfl⟩) (fun j w' hH => ?_)
    obtain ⟨hj, rfl⟩ := hH
    refine TC.seq ?_
    refine TC.seq ?_
    refine TC.region ?_
    refine TL.move rfl rfl ?_
    refine TL.geq rfl rfl rfl ?_
    refine TL.done ?_
    refine Thn.go ?_
    refine TC.condP rfl (fun h2 => ?_) (fun h2 => ?_)
    ·
      obtain ⟨j, rfl⟩ : ∃ i, j = i + 1 := ⟨j - 1, by omega⟩
      obtain ⟨b', off', e, hcell⟩ := ha.byteAt (i := j) (by omega)
      cases e
      refine TC.skip ?_
      refine Thn.go ?_
      refine TC.seq ?_
      refine TC.block ?_
      refine TC.region ?_
      refine TL.move rfl rfl ?_
      refine TL.mul_u64 (b := 256) rfl rfl rfl ?_
      refine TL.move rfl rfl ?_
      refine TL.move rfl rfl ?_
      refine TL.indexAddr (j) sl37 rfl rfl (by first | rfl | omega) (by omega) rfl ?_
      refine TL.load pl5 rfl (hcell) rfl ?_
      refine TL.conv_u64 Tryd.underlying5 Tryd.underlying53 rfl rfl ?_
      refine TL.add_u64 rfl rfl rfl ?_
      refine TL.top (v' := u64 (UInt64.ofNat (Bits.le (l.drop j)))) (by rw [Bits.le_at (show j < l.length by omega)]; exact congrArg u64 (Bits.le_step _ _)) ?_
      refine TL.assign rfl rfl ?_
      refine TL.done ?_
      refine Blk.go ?_
      refine Thn.go ?_
      refine TC.region ?_
      refine TL.move rfl rfl ?_
      refine TL.sub_i64 rfl rfl (by omega) (by omega) rfl ?_
      refine TL.top (v' := .int .i64 ((j : Int) - 1)) (by congr 1; omega) ?_
      refine TL.assign rfl rfl ?_
      refine TL.done ?_
      refine Lp.go (j) (by repeat (first | exact trivial | refine ⟨rfl, ?_⟩)) ?_ (by first | omega | (dsimp only; omega))
      exact ⟨by omega, rfl⟩
    ·
      obtain rfl : j = 0 := by omega
      refine TC.exit ?_
      refine Thn.exit ?_
      refine Lp.exit ?_
      refine Blk.hit ?_
      refine Thn.go ?_
      refine TC.seq ?_
      refine TC.region ?_
      refine TL.move rfl rfl ?_
      refine TL.assign rfl rfl ?_
      refine TL.assign rfl rfl ?_
      refine TL.done ?_
      refine Thn.go ?_
      refine TC.ret ?_
      refine Ends.ret [2, 3] rfl rfl ?_
      exact ⟨by unfold Bits.getN Bits.getE; rw [if_pos h8, if_pos h8]; rfl, rfl⟩

theorem fn45 (n : UInt64) (w : World) : Rets Tryd.prog 45 #[u64 n] w (fun v w' => Own w' w.heap.size 5 1 v (Bits.put n).length ((Bits.put n).map u8) ∧ Ch [] w w') := by
  refine Rets.of (n := 18) (vs := [_]) Tryd.func45 rfl rfl rfl ?_
  refine TC.seq ?_
  refine TC.region ?_
  refine TL.assign rfl rfl ?_
  refine TL.done ?_
  refine Thn.go ?_
  refine TC.seq ?_
  refine TC.region ?_
  refine TL.assign rfl rfl ?_
  refine TL.done ?_
  refine Thn.go ?_
  refine TC.seq ?_
  refine TC.seq ?_
  refine TC.region ?_
  refine TL.assign rfl rfl ?_
  refine TL.done ?_
  refine Thn.go ?_
  refine TC.block ?_
  refine TC.loop3 (fun (x : UInt64) (v : Value) (k : Nat) => [(0, u64 x), (3, v), (4, .int .i64 (k : Int))]) (fun x v k w' => k ≤ 8 ∧ Own w' w.heap.size 5 1 v k (((List.range k).map (Bits.pb n)).map u8) ∧ x.toNat = n.toNat / 256 ^ k ∧ Ch [] w w') (fun _ _ k => 8 - k) n (.slice none 0 0) 0 (by repeat (first | exact trivial | refine ⟨rfl, ?_⟩)) (⟨by omega, World.ownsRow_nil _ _ _ _, by simp, Ch.refl _ _⟩) (fun x v k w' hH => ?_)
  obtain ⟨hk, hown, hx, hch⟩ := hH
  have hmx : maxLen = 9223372036854775807 := rfl
  have hsz := hch.size
  refine TC.seq ?_
  refine TC.seq ?_
  refine TC.region ?_
  refine TL.move rfl rfl ?_
  refine TL.lss rfl rfl rfl ?_
  refine TL.done ?_
  refine Thn.go ?_
  refine TC.condP rfl (fun h1 => ?_) (fun h1 => ?_)
  ·
    refine TC.skip ?_
    refine Thn.go ?_
    refine TC.seq ?_
    refine TC.block ?_
    refine TC.seq ?_
    refine TC.region ?_
    refine TL.move rfl rfl ?_
    refine TL.move rfl rfl ?_
    refine TL.rem_u64 (b := 256) rfl rfl (by decide) rfl ?_
    refine TL.conv_u8 Tryd.underlying53 Tryd.underlying5 rfl rfl ?_
    refine TL.top (v' := u8 (Bits.pb n k)) (by rw [Bits.pb_rem hx]) ?_
    refine TL.buildSlice [.tmp 12] sl37 rfl rfl rfl (by decide) (by first | simp [Value.cells]; done | simp [Value.cells, cl_len]; done) rfl (fun w13 hb13 hc13 hz13 => ?_)
    refine TL.append sl37 rfl rfl rfl (hown.ch0 hc13) (News.ofRd Tryd.underlying37 (Rd.byte _ hb13) (one_byte _)) (by omega) (by omega) (by omega) (fun v14 w14 hv14 hc14 _ => ?_)
    refine TL.assign rfl rfl ?_
    refine TL.done ?_
    refine Thn.go ?_
    refine TC.region ?_
    refine TL.move rfl rfl ?_
    refine TL.quo_u64 (b := 256) rfl rfl (by decide) rfl ?_
    refine TL.assign rfl rfl ?_
    refine TL.done ?_
    refine Blk.go ?_
    refine Thn.go ?_
    refine TC.region ?_
    refine TL.move rfl rfl ?_
    refine TL.add_i64 rfl rfl (by omega) (by omega) rfl ?_
    refine TL.assign rfl rfl ?_
    refine TL.done ?_
    refine Lp.go ((x / 256, v14, k + 1)) (by repeat (first | exact trivial | refine ⟨rfl, ?_⟩)) (?_) (by show 8 - (k + 1) < 8 - k; omega)
    have hs := hc13.size
    exact ⟨by show k + 1 ≤ 8; omega, by rw [List.range_succ, List.map_append, List.map_append]; exact hv14, by show (x / 256).toNat = _; rw [UInt64.toNat_div, hx, Nat.pow_succ, ← Nat.div_div_eq_div_mul]; rfl, (hown.ch0 hc13).thenCh (hch.trans0 hc13) hc14⟩
  ·
    have hk8 : k = 8 := by omega
    subst hk8
    refine TC.exit ?_
    refine Thn.exit ?_
    refine Lp.exit ?_
    refine Blk.hit ?_
    refine Thn.go ?_
    refine TC.seq ?_
    refine TC.region ?_
    refine TL.move rfl rfl ?_
    refine TL.assign rfl rfl ?_
    refine TL.done ?_
    refine Thn.go ?_
    refine TC.ret ?_
    refine Ends.ret [2] rfl rfl ?_
    exact ⟨by rw [Bits.put_len]; exact hown, hch⟩

