/-
  Walks through the given program: each theorem fnN says what the call of function N of the translation hands back, for all arguments that its premises describe, and that nothing that was there has turned.
-/
import Derived.Test.YtcoaophfojkldaaH2
import Derived.Test.YtcoaophfojkldaaBits
import Derived.Test.YtcoaophfojkldaaNum
import Derived.Test.YtcoaophfojkldaaRead
namespace Go.Proofs.Ytcoaophfojkldaa
open Go.Lane
theorem ag94 : AggT Try.prog 94 8 := ⟨⟨_, Try.underlying94, rfl⟩, by kernel_rfl⟩
theorem ar94 : ArrT Try.prog 94 8 5 1 := ⟨Try.underlying94, by kernel_rfl, by decide⟩
theorem can61 : Callable Try.prog 61 := ⟨Try.f61, Try.func61, by kernel_rfl, rfl⟩
theorem can63 : Callable Try.prog 63 := ⟨Try.f63, Try.func63, by kernel_rfl, rfl⟩
theorem sz94 : (Try.prog.info? 94).map (·.size) = some 8 := by kernel_rfl
theorem ze94 : ZeroT Try.prog 94 (.agg (Array.replicate 8 (.int .u8 0))) := by unfold ZeroT; kernel_rfl

theorem fn61 (n : UInt64) (w : World) : Rets Try.prog 61 #[u64 n] w (fun v w' => Own w' w.heap.size 5 1 v (Bits.small n.toNat).length ((Bits.small n.toNat).map u8) ∧ Ch [] w w') := by
  have hten := Bits.small_len64 n
  refine Rets.of (n := 19) (vs := [_]) Try.func61 rfl rfl rfl ?_
  refine TC.seq ?_
  refine TC.region ?_
  refine TL.assign rfl rfl ?_
  refine TL.done ?_
  refine Thn.go ?_
  refine TC.seq ?_
  refine TC.region ?_
  refine TL.assign rfl rfl ?_
  refine TL.done ?_
  refine Thn.go ?_
  refine TC.seq ?_
  refine TC.block ?_
  refine TC.loop3 (fun (x : UInt64) (v : Value) (_ : List UInt8) => [(0, u64 x), (3, v)]) (fun x v l w' => Own w' w.heap.size 5 1 v l.length (l.map u8) ∧ l ++ Bits.small x.toNat = Bits.small n.toNat ∧ Ch [] w w') (fun x _ _ => x.toNat) n (.slice none 0 0) [] (by repeat (first | exact trivial | refine ⟨rfl, ?_⟩)) (⟨World.ownsRow_nil _ _ _ _, rfl, Ch.refl _ _⟩) (fun x v l w' hH => ?_)
  obtain ⟨hown, hpre, hch⟩ := hH
  have hlen : l.length + (Bits.small x.toNat).length ≤ 10 := by rw [← List.length_append, hpre]; exact hten
  have hmx : maxLen = 9223372036854775807 := rfl
  have hsz := hch.size
  refine TC.seq ?_
  refine TC.seq ?_
  refine TC.region ?_
  refine TL.move rfl rfl ?_
  refine TL.gtr rfl rfl rfl ?_
  refine TL.done ?_
  refine Thn.go ?_
  refine TC.condP rfl (fun h1 => ?_) (fun h1 => ?_)
  ·
    have h7 := Bits.sh7 x
    have hsm := Bits.small_ge (n := x.toNat) (by omega)
    refine TC.skip ?_
    refine Thn.go ?_
    refine TC.seq ?_
    refine TC.block ?_
    refine TC.region ?_
    refine TL.move rfl rfl ?_
    refine TL.move rfl rfl ?_
    refine TL.conv_u8 Try.underlying76 Try.underlying5 rfl rfl ?_
    refine TL.or_u8 (b := 128) rfl rfl rfl ?_
    refine TL.buildSlice [.tmp 11] sl50 rfl rfl rfl (by decide) (by first | simp [Value.cells]; done | simp [Value.cells, cl_len]; done) rfl (fun w12 hb12 hc12 hz12 => ?_)
    refine TL.append sl50 rfl rfl rfl (hown.ch0 hc12) (News.ofRd Try.underlying50 (Rd.byte _ hb12) (one_byte _)) (by omega) (by omega) (by omega) (fun v13 w13 hv13 hc13 _ => ?_)
    refine TL.assign rfl rfl ?_
    refine TL.done ?_
    refine Blk.go ?_
    refine Thn.go ?_
    refine TC.region ?_
    refine TL.move rfl rfl ?_
    refine TL.shr_u64 rfl rfl (by decide) rfl ?_
    refine TL.assign rfl rfl ?_
    refine TL.done ?_
    refine Lp.go ((UInt64.ofNat (x.toNat / 2 ^ (7 : Int).toNat), v13, l ++ [UInt8.ofNat (x.toNat % 128 + 128)])) (by repeat (first | exact trivial | refine ⟨rfl, ?_⟩)) (?_) (by show (UInt64.ofNat (x.toNat / 2 ^ (7 : Int).toNat)).toNat < x.toNat; rw [h7]; omega)
    have hs := hc12.size
    rw [← Bits.byte_or]
    exact ⟨by rw [List.length_append, List.map_append]; exact hv13, by show (l ++ _) ++ Bits.small (UInt64.ofNat (x.toNat / 2 ^ (7 : Int).toNat)).toNat = _; rw [Bits.sh7, Bits.byte_or, ← hpre, hsm, List.append_assoc]; rfl, (hown.ch0 hc12).thenCh (hch.trans0 hc12) hc13⟩
  ·
    have hsm := Bits.small_lt (n := x.toNat) (by omega)
    refine TC.exit ?_
    refine Thn.exit ?_
    refine Lp.exit ?_
    refine Blk.hit ?_
    refine Thn.go ?_
    refine TC.seq ?_
    refine TC.region ?_
    refine TL.move rfl rfl ?_
    refine TL.move rfl rfl ?_
    refine TL.conv_u8 Try.underlying76 Try.underlying5 rfl rfl ?_
    refine TL.buildSlice [.tmp 16] sl50 rfl rfl rfl (by decide) (by first | simp [Value.cells]; done | simp [Value.cells, cl_len]; done) rfl (fun w17 hb17 hc17 hz17 => ?_)
    refine TL.append sl50 rfl rfl rfl (hown.ch0 hc17) (News.ofRd Try.underlying50 (Rd.byte _ hb17) (one_byte _)) (by omega) (by omega) (by omega) (fun v18 w18 hv18 hc18 _ => ?_)
    refine TL.assign rfl rfl ?_
    refine TL.done ?_
    refine Thn.go ?_
    refine TC.ret ?_
    refine Ends.ret [2] rfl rfl ?_
    exact ⟨by rw [← hpre, hsm, List.length_append, List.map_append]; exact hv18, (hown.ch0 hc17).thenCh (hch.trans0 hc17) hc18⟩

theorem fn47 (n : UInt64) (w : World) : Rets Try.prog 47 #[u64 n] w (fun v w' => ∃ b, v = .slice (some ⟨b, 0, none⟩) 8 8 ∧ w.heap.size ≤ b ∧ Has w' b ((Bits.put n).map u8).toArray 94 (0, 0) ∧ Ch [] w w') := by
  refine Rets.of (n := 19) (vs := [_]) Try.func47 rfl rfl rfl ?_
  refine TC.seq ?_
  refine TC.region ?_
  refine TL.assign rfl rfl ?_
  refine TL.done ?_
  refine Thn.go ?_
  refine TC.seq ?_
  refine TC.region ?_
  refine TL.alloc ze94 rfl (fun w3 hb3 hc3 hz3 => ?_)
  refine TL.done ?_
  refine Thn.go ?_
  refine TC.seq ?_
  refine TC.seq ?_
  refine TC.region ?_
  refine TL.move rfl rfl ?_
  refine TL.done ?_
  refine Thn.go ?_
  refine TC.block ?_
  refine TC.loop1 (fun (k : Nat) => [(0, u64 n), (3, .pointer (some ⟨w.heap.size, 0, none⟩)), (6, .int .i64 (k : Int))]) (fun k w' => k ≤ 8 ∧ ∃ cur, cur.size = 8 ∧ (∀ j, j < k → cur[j]? = some (u8 (Bits.pb n j))) ∧ Has w' w.heap.size cur 94 (0, 0) ∧ Ch [] w w') (fun k => 8 - k) 0 (by repeat (first | exact trivial | refine ⟨rfl, ?_⟩)) (⟨by omega, _, by rfl, by intro j hj; omega, hb3, hc3⟩) (fun k w' hH => ?_)
  obtain ⟨hk, cur, hcs, hget, hb, hch⟩ := hH
  refine TC.seq ?_
  refine TC.region ?_
  refine TL.lss rfl rfl rfl ?_
  refine TL.done ?_
  refine Thn.go ?_
  refine TC.seq ?_
  refine TC.condP rfl (fun h1 => ?_) (fun h1 => ?_)
  ·
    refine TC.skip ?_
    refine Thn.go ?_
    refine TC.seq ?_
    refine TC.block ?_
    refine TC.seq ?_
    refine TC.region ?_
    refine TL.move rfl rfl ?_
    refine TL.assign rfl rfl ?_
    refine TL.done ?_
    refine Thn.go ?_
    refine TC.region ?_
    refine TL.move rfl rfl ?_
    refine TL.move rfl rfl ?_
    refine TL.move rfl rfl ?_
    refine TL.mul_i64 rfl rfl (by omega) (by omega) rfl ?_
    refine TL.shr_u64 rfl rfl (by omega) rfl ?_
    refine TL.conv_u8 Try.underlying76 Try.underlying5 rfl rfl ?_
    refine TL.indexArr (k) ar94 rfl rfl (by first | rfl | omega) (by omega) rfl ?_
    refine TL.store sz5 rfl rfl rfl (hb) (by first | omega | simp [Value.cells]) (by simp [Value.cells, Value.oneCell']) (.inl rfl) (fun ws1 hbs1 hcs1 hzs1 => ?_)
    replace hbs1 := hbs1.setOne rfl (by omega)
    refine TL.done ?_
    refine Blk.go ?_
    refine Thn.go ?_
    refine TC.region ?_
    refine TL.add_i64 rfl rfl (by omega) (by omega) rfl ?_
    refine TL.move rfl rfl ?_
    refine TL.done ?_
    refine Lp.go (k + 1) (by repeat (first | exact trivial | refine ⟨rfl, ?_⟩)) ?_ (by first | omega | (dsimp only; omega))
    refine ⟨by omega, _, by simp [hcs], fun j hj => ?_, hbs1, hch.then1 hcs1 (Nat.le_refl _)⟩
    simp only [Array.getElem?_setIfInBounds]
    by_cases hjk : 0 + k * 1 = j
    · rw [if_pos hjk, if_pos (by omega)]
      have hjk' : k = j := by omega
      subst hjk'
      rfl
    · rw [if_neg hjk]; exact hget j (by omega)
  ·
    have hk8 : k = 8 := by omega
    subst hk8
    have hcur : cur = ((Bits.put n).map u8).toArray := by
      apply Array.ext_getElem?
      intro j
      rcases Nat.lt_or_ge j 8 with hj | hj
      · rw [hget j hj]; simp [Bits.put, hj]
      · rw [Array.getElem?_eq_none (by omega), Array.getElem?_eq_none (by simp [Bits.put]; omega)]
    subst hcur
    refine TC.exit ?_
    refine Thn.exit ?_
    refine Lp.exit ?_
    refine Blk.hit ?_
    refine Thn.go ?_
    refine TC.seq ?_
    refine TC.region ?_
    refine TL.loadAgg ((Bits.put n).map u8) ag94 rfl rfl (fun j _ => by rw [hb.cell, Nat.zero_add, List.getElem?_toArray]) rfl ?_
    refine TL.alloc ze94 rfl (fun w5 hb5 hc5 hz5 => ?_)
    refine TL.store sz94 rfl rfl rfl (hb5) (by first | omega | simp [Value.cells]) (by exact one_u8 _) (.inl rfl) (fun ws2 hbs2 hcs2 hzs2 => ?_)
    replace hbs2 := hbs2.setAll (by simp [Bits.put_len, Value.cells])
    refine TL.done ?_
    refine Thn.go ?_
    refine TC.seq ?_
    refine TC.region ?_
    refine TL.sliceArr ar94 rfl rfl ?_
    refine TL.assign rfl rfl ?_
    refine TL.done ?_
    refine Thn.go ?_
    refine TC.ret ?_
    refine Ends.ret [2] rfl rfl ?_
    exact ⟨_, rfl, hch.size, hbs2, hch.trans0 (hc5.then1 hcs2 (Nat.le_refl _))⟩

theorem fn50 (n : UInt64) (w : World) : Rets Try.prog 50 #[u64 n] w (fun v w' => Own w' w.heap.size 5 1 v (Bits.put n).length ((Bits.put n).map u8) ∧ Ch [] w w') := by
  refine Rets.of (n := 18) (vs := [_]) Try.func50 rfl rfl rfl ?_
  refine TC.seq ?_
  refine TC.region ?_
  refine TL.assign rfl rfl ?_
  refine TL.done ?_
  refine Thn.go ?_
  refine TC.seq ?_
  refine TC.region ?_
  refine TL.assign rfl rfl ?_
  refine TL.done ?_
  refine Thn.go ?_
  refine TC.seq ?_
  refine TC.seq ?_
  refine TC.region ?_
  refine TL.assign rfl rfl ?_
  refine TL.done ?_
  refine Thn.go ?_
  refine TC.block ?_
  refine TC.loop3 (fun (x : UInt64) (v : Value) (k : Nat) => [(0, u64 x), (3, v), (4, .int .i64 (k : Int))]) (fun x v k w' => k ≤ 8 ∧ Own w' w.heap.size 5 1 v k (((List.range k).map (Bits.pb n)).map u8) ∧ x.toNat = n.toNat / 256 ^ k ∧ Ch [] w w') (fun _ _ k => 8 - k) n (.slice none 0 0) 0 (by repeat (first | exact trivial | refine ⟨rfl, ?_⟩)) (⟨by omega, World.ownsRow_nil _ _ _ _, by simp, Ch.refl _ _⟩) (fun x v k w' hH => ?_)
  obtain ⟨hk, hown, hx, hch⟩ := hH
  have hmx : maxLen = 9223372036854775807 := rfl
  have hsz := hch.size
  refine TC.seq ?_
  refine TC.seq ?_
  refine TC.region ?_
  refine TL.move rfl rfl ?_
  refine TL.lss rfl rfl rfl ?_
  refine TL.done ?_
  refine Thn.go ?_
  refine TC.condP rfl (fun h1 => ?_) (fun h1 => ?_)
  ·
    refine TC.skip ?_
    refine Thn.go ?_
    refine TC.seq ?_
    refine TC.block ?_
    refine TC.seq ?_
    refine TC.region ?_
    refine TL.move rfl rfl ?_
    refine TL.move rfl rfl ?_
    refine TL.rem_u64 (b := 256) rfl rfl (by decide) rfl ?_
    refine TL.conv_u8 Try.underlying76 Try.underlying5 rfl rfl ?_
    refine TL.top (v' := u8 (Bits.pb n k)) (by rw [Bits.pb_rem hx]) ?_
    refine TL.buildSlice [.tmp 12] sl50 rfl rfl rfl (by decide) (by first | simp [Value.cells]; done | simp [Value.cells, cl_len]; done) rfl (fun w13 hb13 hc13 hz13 => ?_)
    refine TL.append sl50 rfl rfl rfl (hown.ch0 hc13) (News.ofRd Try.underlying50 (Rd.byte _ hb13) (one_byte _)) (by omega) (by omega) (by omega) (fun v14 w14 hv14 hc14 _ => ?_)
    refine TL.assign rfl rfl ?_
    refine TL.done ?_
    refine Thn.go ?_
    refine TC.region ?_
    refine TL.move rfl rfl ?_
    refine TL.quo_u64 (b := 256) rfl rfl (by decide) rfl ?_
    refine TL.assign rfl rfl ?_
    refine TL.done ?_
    refine Blk.go ?_
    refine Thn.go ?_
    refine TC.region ?_
    refine TL.move rfl rfl ?_
    refine TL.add_i64 rfl rfl (by omega) (by omega) rfl ?_
    refine TL.assign rfl rfl ?_
    refine TL.done ?_
    refine Lp.go ((x / 256, v14, k + 1)) (by repeat (first | exact trivial | refine ⟨rfl, ?_⟩)) (?_) (by show 8 - (k + 1) < 8 - k; omega)
    have hs := hc13.size
    exact ⟨by show k + 1 ≤ 8; omega, by rw [List.range_succ, List.map_append, List.map_append]; exact hv14, by show (x / 256).toNat = _; rw [UInt64.toNat_div, hx, Nat.pow_succ, ← Nat.div_div_eq_div_mul]; rfl, (hown.ch0 hc13).thenCh (hch.trans0 hc13) hc14⟩
  ·
    have hk8 : k = 8 := by omega
    subst hk8
    refine TC.exit ?_
    refine Thn.exit ?_
    refine Lp.exit ?_
    refine Blk.hit ?_
    refine Thn.go ?_
    refine TC.seq ?_
    refine TC.region ?_
    refine TL.move rfl rfl ?_
    refine TL.assign rfl rfl ?_
    refine TL.done ?_
    refine Thn.go ?_
    refine TC.ret ?_
    refine Ends.ret [2] rfl rfl ?_
    exact ⟨by rw [Bits.put_len]; exact hown, hch⟩

theorem fn63 (n : UInt64) (w : World) : Rets Try.prog 63 #[u64 n] w (fun v w' => Own w' w.heap.size 5 1 v (Bits.small n.toNat).length ((Bits.small n.toNat).map u8) ∧ Ch [] w w') := by
  have hten := Bits.small_len64 n
  refine Rets.of (n := 20) (vs := [_]) Try.func63 rfl rfl rfl ?_
  refine TC.seq ?_
  refine TC.region ?_
  refine TL.assign rfl rfl ?_
  refine TL.done ?_
  refine Thn.go ?_
  refine TC.seq ?_
  refine TC.region ?_
  refine TL.assign rfl rfl ?_
  refine TL.done ?_
  refine Thn.go ?_
  refine TC.seq ?_
  refine TC.block ?_
  refine TC.loop3 (fun (x : UInt64) (v : Value) (_ : List UInt8) => [(0, u64 x), (3, v)]) (fun x v l w' => Own w' w.heap.size 5 1 v l.length (l.map u8) ∧ l ++ Bits.small x.toNat = Bits.small n.toNat ∧ Ch [] w w') (fun x _ _ => x.toNat) n (.slice none 0 0) [] (by repeat (first | exact trivial | refine ⟨rfl, ?_⟩)) (⟨World.ownsRow_nil _ _ _ _, rfl, Ch.refl _ _⟩) (fun x v l w' hH => ?_)
  obtain ⟨hown, hpre, hch⟩ := hH
  have hlen : l.length + (Bits.small x.toNat).length ≤ 10 := by rw [← List.length_append, hpre]; exact hten
  have hmx : maxLen = 9223372036854775807 := rfl
  have hsz := hch.size
  have hq : (x / 128).toNat = x.toNat / 128 := by rw [UInt64.toNat_div]; rfl
  refine TC.seq ?_
  refine TC.seq ?_
  refine TC.region ?_
  refine TL.move rfl rfl ?_
  refine TL.geq rfl rfl rfl ?_
  refine TL.done ?_
  refine Thn.go ?_
  refine TC.condP rfl (fun h1 => ?_) (fun h1 => ?_)
  ·
    have hsm := Bits.small_ge (n := x.toNat) (by omega)
    refine TC.skip ?_
    refine Thn.go ?_
    refine TC.block ?_
    refine TC.seq ?_
    refine TC.region ?_
    refine TL.move rfl rfl ?_
    refine TL.move rfl rfl ?_
    refine TL.rem_u64 (b := 128) rfl rfl (by decide) rfl ?_
    refine TL.conv_u8 Try.underlying76 Try.underlying5 rfl rfl ?_
    refine TL.add_u8 (b := 128) rfl rfl rfl ?_
    refine TL.top (v' := u8 (UInt8.ofNat (x.toNat % 128 + 128))) (by rw [Bits.small_rem]) ?_
    refine TL.buildSlice [.tmp 10] sl50 rfl rfl rfl (by decide) (by first | simp [Value.cells]; done | simp [Value.cells, cl_len]; done) rfl (fun w11 hb11 hc11 hz11 => ?_)
    refine TL.append sl50 rfl rfl rfl (hown.ch0 hc11) (News.ofRd Try.underlying50 (Rd.byte _ hb11) (one_byte _)) (by omega) (by omega) (by omega) (fun v12 w12 hv12 hc12 _ => ?_)
    refine TL.assign rfl rfl ?_
    refine TL.done ?_
    refine Thn.go ?_
    refine TC.region ?_
    refine TL.move rfl rfl ?_
    refine TL.quo_u64 (b := 128) rfl rfl (by decide) rfl ?_
    refine TL.assign rfl rfl ?_
    refine TL.done ?_
    refine Blk.go ?_
    refine Lp.go ((x / 128, v12, l ++ [UInt8.ofNat (x.toNat % 128 + 128)])) (by repeat (first | exact trivial | refine ⟨rfl, ?_⟩)) (?_) (by show (x / 128).toNat < x.toNat; rw [hq]; omega)
    have hs := hc11.size
    exact ⟨by rw [List.length_append, List.map_append]; exact hv12, by show (l ++ _) ++ Bits.small (x / 128).toNat = _; rw [hq, ← hpre, hsm, List.append_assoc]; rfl, (hown.ch0 hc11).thenCh (hch.trans0 hc11) hc12⟩
  ·
    have hsm := Bits.small_lt (n := x.toNat) (by omega)
    refine TC.exit ?_
    refine Thn.exit ?_
    refine Lp.exit ?_
    refine Blk.hit ?_
    refine Thn.go ?_
    refine TC.seq ?_
    refine TC.region ?_
    refine TL.move rfl rfl ?_
    refine TL.move rfl rfl ?_
    refine TL.conv_u8 Try.underlying76 Try.underlying5 rfl rfl ?_
    refine TL.buildSlice [.tmp 17] sl50 rfl rfl rfl (by decide) (by first | simp [Value.cells]; done | simp [Value.cells, cl_len]; done) rfl (fun w18 hb18 hc18 hz18 => ?_)
    refine TL.append sl50 rfl rfl rfl (hown.ch0 hc18) (News.ofRd Try.underlying50 (Rd.byte _ hb18) (one_byte _)) (by omega) (by omega) (by omega) (fun v19 w19 hv19 hc19 _ => ?_)
    refine TL.assign rfl rfl ?_
    refine TL.done ?_
    refine Thn.go ?_
    refine TC.ret ?_
    refine Ends.ret [2] rfl rfl ?_
    exact ⟨by rw [← hpre, hsm, List.length_append, List.map_append]; exact hv19, (hown.ch0 hc18).thenCh (hch.trans0 hc18) hc19⟩

theorem fn46 (s : List UInt8) (hs : s.length ≤ 1099511627776) (w : World) : Rets Try.prog 46 #[str s] w (fun v w' => Own w' w.heap.size 5 1 v (Bits.text s).length ((Bits.text s).map u8) ∧ Ch [] w w') := by
  have hmm : maxLen = 9223372036854775807 := rfl
  have hten := Bits.small_len64 (UInt64.ofNat s.length)
  have hn : (UInt64.ofNat s.length).toNat = s.length := by rw [UInt64.toNat_ofNat']; omega
  refine Rets.of (n := 9) (vs := [_]) Try.func46 rfl rfl rfl ?_
  refine TC.seq ?_
  refine TC.region ?_
  refine TL.assign rfl rfl ?_
  refine TL.done ?_
  refine Thn.go ?_
  refine TC.seq ?_
  refine TC.region ?_
  refine TL.move rfl rfl ?_
  refine TL.lenStr Try.underlying9 rfl rfl ?_
  refine TL.conv_u64 (m := s.length) Try.underlying3 Try.underlying76 rfl rfl ?_
  refine TL.call can61 rfl rfl (fn61 (UInt64.ofNat s.length) w) (fun v6 w6 hr6 => ?_)
  obtain ⟨hv6, hc6⟩ := hr6
  rw [hn] at hv6 hten
  have hsz := hc6.size
  refine TL.move rfl rfl ?_
  refine TL.append sl50 rfl rfl rfl (hv6) (News.ofString Try.underlying9) (by omega) (by omega) (by omega) (fun v8 w8 hv8 hc8 _ => ?_)
  refine TL.assign rfl rfl ?_
  refine TL.done ?_
  refine Thn.go ?_
  refine TC.ret ?_
  refine Ends.ret [2] rfl rfl ?_
  exact ⟨by rw [Bits.text, List.length_append, List.map_append]; exact hv8, hv6.thenCh hc6 hc8⟩

theorem fn49 (s : List UInt8) (hs : s.length ≤ 1099511627776) (w : World) : Rets Try.prog 49 #[str s] w (fun v w' => Own w' w.heap.size 5 1 v (Bits.text s).length ((Bits.text s).map u8) ∧ Ch [] w w') := by
  have hmm : maxLen = 9223372036854775807 := rfl
  have hten := Bits.small_len64 (UInt64.ofNat s.length)
  have hn : (UInt64.ofNat s.length).toNat = s.length := by rw [UInt64.toNat_ofNat']; omega
  refine Rets.of (n := 9) (vs := [_]) Try.func49 rfl rfl rfl ?_
  refine TC.seq ?_
  refine TC.region ?_
  refine TL.assign rfl rfl ?_
  refine TL.done ?_
  refine Thn.go ?_
  refine TC.seq ?_
  refine TC.region ?_
  refine TL.move rfl rfl ?_
  refine TL.lenStr Try.underlying9 rfl rfl ?_
  refine TL.conv_u64 (m := s.length) Try.underlying3 Try.underlying76 rfl rfl ?_
  refine TL.call can63 rfl rfl (fn63 (UInt64.ofNat s.length) w) (fun v6 w6 hr6 => ?_)
  obtain ⟨hv6, hc6⟩ := hr6
  rw [hn] at hv6 hten
  have hsz := hc6.size
  refine TL.move rfl rfl ?_
  refine TL.append sl50 rfl rfl rfl (hv6) (News.ofString Try.underlying9) (by omega) (by omega) (by omega) (fun v8 w8 hv8 hc8 _ => ?_)
  refine TL.assign rfl rfl ?_
  refine TL.done ?_
  refine Thn.go ?_
  refine TC.ret ?_
  refine Ends.ret [2] rfl rfl ?_
  exact ⟨by rw [Bits.text, List.length_append, List.map_append]; exact hv8, hv6.thenCh hc6 hc8⟩

