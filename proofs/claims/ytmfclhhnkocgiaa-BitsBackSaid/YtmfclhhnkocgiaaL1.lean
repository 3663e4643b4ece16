/-
  Walks through the given program: each theorem fnN says what the call of function N of the translation hands back, for all arguments that its premises describe, and that nothing that was there has turned.
-/
import Derived.Test.YtmfclhhnkocgiaaF2
import Derived.Test.YtmfclhhnkocgiaaTurn
namespace Go.Proofs.Ytmfclhhnkocgiaa
open Go.Lane
theorem can11 : Callable Try.prog 11 := ⟨Try.f11, Try.func11, by kernel_rfl, rfl⟩
theorem mixed0 : Try.prog.follows .mixedOrders = true := by kernel_rfl

theorem fn5 (n : UInt64) (w : World) : Rets Try.prog 5 #[u64 n] w (fun v w' => v = .bool true ∧ Ch [] w w') := by
  have hten := Bits.small_len64 n
  have hpos := Bits.small_pos n.toNat
  have h128 : ∀ x : UInt64, (x / 128).toNat = x.toNat / 128 := fun x => by rw [UInt64.toNat_div]; rfl
  refine Rets.of (n := 41) (vs := [_]) Try.func5 rfl rfl rfl ?_
  refine TC.seq ?_
  refine TC.region ?_
  refine TL.assign rfl rfl ?_
  refine TL.done ?_
  refine Thn.go ?_
  refine TC.seq ?_
  refine TC.region ?_
  refine TL.call can11 rfl rfl (fn11 w) (fun v7 w7 hr7 => ?_)
  obtain ⟨rfl, hc7⟩ := hr7
  refine TL.assign rfl rfl ?_
  refine TL.done ?_
  refine Thn.go ?_
  refine TC.seq ?_
  refine TC.seq ?_
  refine TC.region ?_
  refine TL.move rfl rfl ?_
  refine TL.not rfl rfl ?_
  refine TL.done ?_
  refine Thn.go ?_
  refine TC.condF rfl rfl ?_
  refine TC.skip ?_
  refine Thn.go ?_
  refine TC.seq ?_
  refine TC.region ?_
  refine TL.assign rfl rfl ?_
  refine TL.done ?_
  refine Thn.go ?_
  refine TC.seq ?_
  refine TC.seq ?_
  refine TC.region ?_
  refine TL.move rfl rfl ?_
  refine TL.quo_u64 (b := 128) rfl rfl (by decide) rfl ?_
  refine TL.assign rfl rfl ?_
  refine TL.done ?_
  refine Thn.go ?_
  refine TC.block ?_
  refine TC.loop2 (fun (k : Nat) (x : UInt64) => [(0, u64 n), (3, .bool true), (4, .int .i64 (k : Int)), (5, u64 x)]) (fun k x w' => k + Bits.cnt x.toNat = (Bits.small n.toNat).length ∧ w' = w7) (fun _ x => x.toNat) 1 (n / 128) (by repeat (first | exact trivial | refine ⟨rfl, ?_⟩)) (⟨by rw [h128, Bits.small_cnt], rfl⟩) (fun k x w' hH => ?_)
  obtain ⟨hk, rfl⟩ := hH
  refine TC.seq ?_
  refine TC.seq ?_
  refine TC.region ?_
  refine TL.move rfl rfl ?_
  refine TL.gtr rfl rfl rfl ?_
  refine TL.done ?_
  refine Thn.go ?_
  refine TC.condP rfl (fun h2 => ?_) (fun h2 => ?_)
  ·
    have hcp := Bits.cnt_pos (x := x.toNat) (by omega)
    have hx8 := h128 x
    refine TC.skip ?_
    refine Thn.go ?_
    refine TC.seq ?_
    refine TC.block ?_
    refine TC.region ?_
    refine TL.move rfl rfl ?_
    refine TL.add_i64 rfl rfl (by omega) (by omega) rfl ?_
    refine TL.assign rfl rfl ?_
    refine TL.done ?_
    refine Blk.go ?_
    refine Thn.go ?_
    refine TC.region ?_
    refine TL.move rfl rfl ?_
    refine TL.quo_u64 (b := 128) rfl rfl (by decide) rfl ?_
    refine TL.assign rfl rfl ?_
    refine TL.done ?_
    refine Lp.go ((k + 1, x / 128)) (by repeat (first | exact trivial | refine ⟨rfl, ?_⟩)) (?_) (by show (x / 128).toNat < x.toNat; rw [hx8]; omega)
    exact ⟨by show k + 1 + Bits.cnt (x / 128).toNat = _; rw [hx8]; omega, rfl⟩
  ·
    have hx0 : x.toNat = 0 := by omega
    rw [hx0, Bits.cnt_zero] at hk
    refine TC.exit ?_
    refine Thn.exit ?_
    refine Lp.exit ?_
    refine Blk.hit ?_
    refine Thn.go ?_
    refine TC.seq ?_
    refine TC.region ?_
    refine TL.move rfl rfl ?_
    refine TL.call can13 rfl rfl (fn13 n w') (fun v19 w19 hr19 => ?_)
    obtain ⟨hv19, hc19⟩ := hr19
    obtain ⟨g4, c4, rfl⟩ := hv19.form hpos
    refine TL.assign rfl rfl ?_
    refine TL.done ?_
    refine Thn.go ?_
    refine TC.seq ?_
    refine TC.region ?_
    refine TL.move rfl rfl ?_
    refine TL.move rfl rfl ?_
    refine TL.guardYes (d := 21) rfl rfl rfl ?_
    refine TL.move rfl rfl ?_
    refine TL.guardYes (d := 21) rfl rfl rfl ?_
    refine TL.lenSlice Try.underlying22 rfl rfl ?_
    refine TL.guardYes (d := 21) rfl rfl rfl ?_
    refine TL.move rfl rfl ?_
    refine TL.guardYes (d := 21) rfl rfl rfl ?_
    refine TL.eql rfl rfl rfl ?_
    refine TL.yes (by omega) ?_
    refine TL.pickT rfl rfl rfl rfl ?_
    refine TL.move rfl rfl ?_
    refine TL.guardYes (d := 27) rfl rfl rfl ?_
    refine TL.move rfl rfl ?_
    refine TL.guardYes (d := 27) rfl rfl rfl ?_
    refine TL.call can14 rfl rfl (fn14 n w19) (fun v29 w29 hr29 => ?_)
    obtain ⟨b5, rfl, hb29, hh5, hc29⟩ := hr29
    refine TL.guardYes (d := 27) rfl rfl rfl ?_
    refine TL.lenSlice Try.underlying22 rfl rfl ?_
    refine TL.guardYes (d := 27) rfl rfl rfl ?_
    refine TL.eql rfl rfl rfl ?_
    refine TL.yes (rfl) ?_
    refine TL.pickT rfl rfl rfl rfl ?_
    refine TL.move rfl rfl ?_
    refine TL.guardYes (d := 33) rfl rfl rfl ?_
    refine TL.move rfl rfl ?_
    refine TL.guardYes (d := 33) rfl rfl rfl ?_
    refine TL.move rfl rfl ?_
    refine TL.guardYes (d := 33) rfl rfl rfl ?_
    refine TL.sub_i64 rfl rfl (by omega) (by omega) rfl ?_
    refine TL.guardYes (d := 33) rfl rfl rfl ?_
    refine TL.indexAddr (k - 1) sl22 rfl rfl (by first | rfl | omega) (by omega) rfl ?_
    obtain ⟨b, hb, hb128⟩ := Bits.small_last n.toNat
    obtain ⟨gg, off, hgg, hcell⟩ := (Rd.ofOwn (hv19.ch0 hc29)).at0 (i := k - 1) (by omega)
    cases hgg
    rw [List.getElem?_map, show k - 1 = (Bits.small n.toNat).length - 1 by omega, hb] at hcell
    refine TL.guardYes (d := 33) rfl rfl rfl ?_
    refine TL.load pl5 rfl (by rw [Nat.mul_one, show k - 1 = (Bits.small n.toNat).length - 1 by omega]; exact hcell) rfl ?_
    refine TL.guardYes (d := 33) rfl rfl rfl ?_
    refine TL.lss rfl rfl rfl ?_
    refine TL.yes (by omega) ?_
    refine TL.pickT rfl rfl rfl rfl ?_
    refine TL.assign rfl rfl ?_
    refine TL.done ?_
    refine Thn.go ?_
    refine TC.ret ?_
    refine Ends.ret [2] rfl rfl ?_
    exact ⟨rfl, (hc7.trans0 hc19).trans0 hc29⟩

theorem fn4 (va : Value) (la : List UInt8) (vb : Value) (lb : List UInt8) (vc : Value) (lc : List UInt8) (w : World) (ha : Rd w va 1 la.length (la.map u8)) (hb : Rd w vb 1 lb.length (lb.map u8)) (hc : Rd w vc 1 lc.length (lc.map u8)) : Rets Try.prog 4 #[va, vb, vc] w (fun v w' => v = .bool true ∧ Ch [] w w') := by
  obtain ⟨aa, ca, rfl, _⟩ := ha.shape
  obtain ⟨ab, cb, rfl, _⟩ := hb.shape
  obtain ⟨ac, cc, rfl, _⟩ := hc.shape
  obtain ⟨N, hN⟩ : ∃ N : Nat, N = min (min la.length lb.length) lc.length := ⟨_, rfl⟩
  refine Rets.of (n := 68) (vs := [_, _, _]) Try.func4 rfl rfl rfl ?_
  refine TC.seq ?_
  refine TC.region ?_
  refine TL.assign rfl rfl ?_
  refine TL.done ?_
  refine Thn.go ?_
  refine TC.seq ?_
  refine TC.region ?_
  refine TL.call can11 rfl rfl (fn11 w) (fun v11 w11 hr11 => ?_)
  obtain ⟨rfl, hc11⟩ := hr11
  refine TL.assign rfl rfl ?_
  refine TL.done ?_
  refine Thn.go ?_
  refine TC.seq ?_
  refine TC.seq ?_
  refine TC.region ?_
  refine TL.move rfl rfl ?_
  refine TL.not rfl rfl ?_
  refine TL.done ?_
  refine Thn.go ?_
  refine TC.condF rfl rfl ?_
  refine TC.skip ?_
  refine Thn.go ?_
  refine TC.seq ?_
  refine TC.region ?_
  refine TL.move rfl rfl ?_
  refine TL.lenSlice Try.underlying22 rfl rfl ?_
  refine TL.move rfl rfl ?_
  refine TL.lenSlice Try.underlying22 rfl rfl ?_
  refine TL.move rfl rfl ?_
  refine TL.lenSlice Try.underlying22 rfl rfl ?_
  refine TL.min3 rfl rfl rfl rfl ?_
  refine TL.top (v' := .int .i64 (N : Int)) (by rw [show min (min (la.length : Int) lb.length) lc.length = (N : Int) by omega]) ?_
  refine TL.assign rfl rfl ?_
  refine TL.done ?_
  refine Thn.go ?_
  refine TC.seq ?_
  refine TC.seq ?_
  refine TC.region ?_
  refine TL.move rfl rfl ?_
  refine TL.gtr rfl rfl rfl ?_
  refine TL.done ?_
  refine Thn.go ?_
  refine TC.condP rfl (fun h2 => ?_) (fun h2 => ?_)
  ·
    refine TC.seq ?_
    refine TC.region ?_
    refine TL.move rfl rfl ?_
    refine TL.assign rfl rfl ?_
    refine TL.done ?_
    refine Thn.go ?_
    refine TC.ret ?_
    refine Thn.ret ?_
    refine Ends.ret [6] rfl rfl ?_
    exact ⟨rfl, hc11⟩
  ·
    refine TC.skip ?_
    refine Thn.go ?_
    refine TC.seq ?_
    refine TC.region ?_
    refine TL.move rfl rfl ?_
    refine TL.makeSlice (N) sl22 rfl rfl (rfl) (by omega) (by unfold maxLen; omega) rfl (fun w25 hv25 hc25 hz25 => ?_)
    obtain ⟨cur0, hh0, hs0, _, _, _, ht0⟩ := hv25.has
    refine TL.assign rfl rfl ?_
    refine TL.done ?_
    refine Thn.go ?_
    refine TC.seq ?_
    refine TC.seq ?_
    refine TC.region ?_
    refine TL.assign rfl rfl ?_
    refine TL.done ?_
    refine Thn.go ?_
    refine TC.block ?_
    refine TC.loop1 (fun (k : Nat) => [(0, .slice aa la.length ca), (1, .slice ab lb.length cb), (2, .slice ac lc.length cc), (7, .bool true), (8, .int .i64 (N : Int)), (9, .slice (some ⟨w11.heap.size, 0, none⟩) N N), (10, .int .i64 (k : Int))]) (fun k w' => k ≤ N ∧ ∃ cur, Has w' w11.heap.size cur 5 (0, 0) ∧ cur.size = N ∧ (∀ j, j < k → cur[j]? = ((Bits.zipX (Bits.zipX la lb) lc)[j]?).map u8) ∧ Ch [] w w') (fun k => N - k) 0 (by repeat (first | exact trivial | refine ⟨rfl, ?_⟩)) (⟨by omega, cur0, hh0, by omega, fun j hj => by omega, hc11.trans0 hc25⟩) (fun k w' hH => ?_)
    obtain ⟨hk, cur, hh, hcs, hget, hch⟩ := hH
    refine TC.seq ?_
    refine TC.seq ?_
    refine TC.region ?_
    refine TL.move rfl rfl ?_
    refine TL.move rfl rfl ?_
    refine TL.lss rfl rfl rfl ?_
    refine TL.done ?_
    refine Thn.go ?_
    refine TC.condP rfl (fun h3 => ?_) (fun h3 => ?_)
    ·
      have hkN : k < N := by omega
      obtain ⟨ba, oa, rfl, hca⟩ := (ha.ch0 hch).at0 (i := k) (by omega)
      obtain ⟨bb, ob, rfl, hcb⟩ := (hb.ch0 hch).at0 (i := k) (by omega)
      obtain ⟨bc, oc, rfl, hcc⟩ := (hc.ch0 hch).at0 (i := k) (by omega)
      rw [List.getElem?_map, List.getElem?_eq_getElem (by omega)] at hca hcb hcc
      refine TC.skip ?_
      refine Thn.go ?_
      refine TC.seq ?_
      refine TC.block ?_
      refine TC.regionTail 17 mixed0 (by kernel_rfl) ?_
      refine TS.via rfl rfl rfl rfl (TL.move rfl rfl (TL.done ⟨rfl, rfl⟩)) ?_
      refine TS.via rfl rfl rfl rfl (TL.move rfl rfl (TL.done ⟨rfl, rfl⟩)) ?_
      refine TS.via rfl rfl rfl rfl (TL.move rfl rfl (TL.done ⟨rfl, rfl⟩)) ?_
      refine TS.via rfl rfl rfl rfl (TL.move rfl rfl (TL.done ⟨rfl, rfl⟩)) ?_
      refine TS.via rfl rfl rfl rfl (TL.indexAddr (k) sl22 rfl rfl (by first | rfl | omega) (by omega) rfl (TL.done ⟨rfl, rfl⟩)) ?_
      refine TS.via rfl rfl rfl rfl (TL.load pl5 rfl (by rw [Nat.mul_one]; exact hca) rfl (TL.done ⟨rfl, rfl⟩)) ?_
      refine TS.via rfl rfl rfl rfl (TL.move rfl rfl (TL.done ⟨rfl, rfl⟩)) ?_
      refine TS.via rfl rfl rfl rfl (TL.move rfl rfl (TL.done ⟨rfl, rfl⟩)) ?_
      refine TS.via rfl rfl rfl rfl (TL.indexAddr (k) sl22 rfl rfl (by first | rfl | omega) (by omega) rfl (TL.done ⟨rfl, rfl⟩)) ?_
      refine TS.via rfl rfl rfl rfl (TL.load pl5 rfl (by rw [Nat.mul_one]; exact hcb) rfl (TL.done ⟨rfl, rfl⟩)) ?_
      refine TS.via rfl rfl rfl rfl (TL.xor_u8 rfl rfl rfl (TL.done ⟨rfl, rfl⟩)) ?_
      refine TS.via rfl rfl rfl rfl (TL.move rfl rfl (TL.done ⟨rfl, rfl⟩)) ?_
      refine TS.via rfl rfl rfl rfl (TL.move rfl rfl (TL.done ⟨rfl, rfl⟩)) ?_
      refine TS.via rfl rfl rfl rfl (TL.indexAddr (k) sl22 rfl rfl (by first | rfl | omega) (by omega) rfl (TL.done ⟨rfl, rfl⟩)) ?_
      refine TS.via rfl rfl rfl rfl (TL.load pl5 rfl (by rw [Nat.mul_one]; exact hcc) rfl (TL.done ⟨rfl, rfl⟩)) ?_
      refine TS.via rfl rfl rfl rfl (TL.xor_u8 rfl rfl rfl (TL.done ⟨rfl, rfl⟩)) ?_
      refine TS.via rfl rfl rfl rfl (TL.indexAddr (k) sl22 rfl rfl (by first | rfl | omega) (by omega) rfl (TL.done ⟨rfl, rfl⟩)) ?_
      refine TS.done ?_
      refine TL.store sz5 rfl rfl rfl (hh) (by first | omega | simp [Value.cells]) (by simp [Value.cells, Value.oneCell']) (.inl rfl) (fun ws1 hbs1 hcs1 hzs1 => ?_)
      replace hbs1 := hbs1.setOne rfl (by omega)
      refine TL.done ?_
      refine Blk.go ?_
      refine Thn.go ?_
      refine TC.region ?_
      refine TL.move rfl rfl ?_
      refine TL.add_i64 rfl rfl (by omega) (by omega) rfl ?_
      refine TL.assign rfl rfl ?_
      refine TL.done ?_
      refine Lp.go (k + 1) (by repeat (first | exact trivial | refine ⟨rfl, ?_⟩)) ?_ (by first | omega | (dsimp only; omega))
      refine ⟨by omega, _, hbs1, by simpa using hcs, fun j hj => ?_, (hch.trans0 (Ch.drew [] w')).then1 hcs1 hc11.size⟩
      rw [Nat.mul_one, Nat.zero_add, Array.getElem?_setIfInBounds]
      by_cases hjk : k = j
      · subst hjk
        rw [if_pos rfl, if_pos (by omega), Bits.zipX_get (Bits.zipX_get (List.getElem?_eq_getElem (by omega)) (List.getElem?_eq_getElem (by omega))) (List.getElem?_eq_getElem (by omega))]; rfl
      · rw [if_neg hjk]; exact hget j (by omega)
    ·
      have hkN : k = N := by omega
      subst hkN
      have qa := ha.cap
      have qb := hb.cap
      have qc := hc.cap
      have hxl : (Bits.zipX (Bits.zipX la lb) lc).length = k := by rw [Bits.zipX_len, Bits.zipX_len]; omega
      have hxs : Rd w' (.slice (some ⟨w11.heap.size, 0, none⟩) k k) 1 (Bits.zipX (Bits.zipX la lb) lc).length ((Bits.zipX (Bits.zipX la lb) lc).map u8) := by
        refine Rd.bytes _ (Rd.ofHas hh (by unfold maxLen; omega) (by omega) rfl) hxl.symm ?_
        apply List.ext_getElem?
        intro j
        rw [List.drop_zero, Nat.mul_one, List.getElem?_take, List.getElem?_map]
        by_cases hj : j < k
        · rw [if_pos hj, Array.getElem?_toList, hget j hj]
        · rw [if_neg hj, List.getElem?_eq_none (by omega)]; rfl
      have hz : Bits.zipX (Bits.zipX la lb) lc = Bits.zipX (Bits.zipX (la.take k) (lb.take k)) (lc.take k) := by
        apply List.ext_getElem?
        intro j
        by_cases hj : j < k
        · rw [Bits.zipX_get (Bits.zipX_get (List.getElem?_eq_getElem (by omega)) (List.getElem?_eq_getElem (by omega))) (List.getElem?_eq_getElem (by omega))]
          rw [Bits.zipX_get (Bits.zipX_get (a := la.take k) (b := lb.take k) (x := la[j]) (y := lb[j]) (by rw [List.getElem?_take, if_pos hj, List.getElem?_eq_getElem (by omega)]) (by rw [List.getElem?_take, if_pos hj, List.getElem?_eq_getElem (by omega)])) (y := lc[j]) (by rw [List.getElem?_take, if_pos hj, List.getElem?_eq_getElem (by omega)])]
        · rw [List.getElem?_eq_none (by omega), List.getElem?_eq_none (by rw [Bits.zipX_len, Bits.zipX_len]; simp; omega)]
      have hsum := Bits.sum_mixed (la.take k) (lb.take k) (lc.take k) (by simp; omega) (by simp; omega)
      rw [← hz] at hsum
      refine TC.exit ?_
      refine Thn.exit ?_
      refine Lp.exit ?_
      refine Blk.hit ?_
      refine Thn.go ?_
      refine TC.seq ?_
      refine TC.regionQ (fun w2 => Ch [] w' w2) mixed0 (by kernel_rfl) (Ch.drew [] w') ?_
      refine TQ.via rfl rfl rfl rfl (fun w2 hw2 => TL.move rfl rfl (TL.done ⟨rfl, rfl⟩)) ?_
      refine TQ.via rfl rfl rfl rfl (fun w2 hw2 => TL.move rfl rfl (TL.done ⟨rfl, rfl⟩)) ?_
      refine TQ.guardYes (d := 49) rfl rfl rfl ?_
      refine TQ.via rfl rfl rfl rfl (fun w2 hw2 => TL.move rfl rfl (TL.done ⟨rfl, rfl⟩)) ?_
      refine TQ.guardYes (d := 49) rfl rfl rfl ?_
      refine TQ.call (u32 (Bits.sumT (Bits.zipX (Bits.zipX la lb) lc))) can12 rfl rfl (fun w2 hw2 => (fn12 w2 _ _ (hxs.ch0 hw2)).mono fun _ _ ⟨h1, h2⟩ => ⟨h1, hw2.trans0 h2⟩) ?_
      refine TQ.guardYes (d := 49) rfl rfl rfl ?_
      refine TQ.via rfl rfl rfl rfl (fun w2 hw2 => TL.move rfl rfl (TL.done ⟨rfl, rfl⟩)) ?_
      refine TQ.guardYes (d := 49) rfl rfl rfl ?_
      refine TQ.via rfl rfl rfl rfl (fun w2 hw2 => TL.move rfl rfl (TL.done ⟨rfl, rfl⟩)) ?_
      refine TQ.guardYes (d := 49) rfl rfl rfl ?_
      refine TQ.via rfl rfl rfl rfl (fun w2 hw2 => TL.sliceTo (k) sl22 rfl rfl (by first | rfl | omega) (by omega) rfl (TL.done ⟨rfl, rfl⟩)) ?_
      refine TQ.guardYes (d := 49) rfl rfl rfl ?_
      refine TQ.call (u32 (Bits.sumT (la.take k))) can12 rfl rfl (fun w2 hw2 => (fn12 w2 _ _ (Rd.bytes (la.take k) (((ha.ch0 hch).ch0 hw2).to (by omega)) (by simp; omega) (by simp))).mono fun _ _ ⟨h1, h2⟩ => ⟨h1, hw2.trans0 h2⟩) ?_
      refine TQ.guardYes (d := 49) rfl rfl rfl ?_
      refine TQ.via rfl rfl rfl rfl (fun w2 hw2 => TL.move rfl rfl (TL.done ⟨rfl, rfl⟩)) ?_
      refine TQ.guardYes (d := 49) rfl rfl rfl ?_
      refine TQ.via rfl rfl rfl rfl (fun w2 hw2 => TL.move rfl rfl (TL.done ⟨rfl, rfl⟩)) ?_
      refine TQ.guardYes (d := 49) rfl rfl rfl ?_
      refine TQ.via rfl rfl rfl rfl (fun w2 hw2 => TL.sliceTo (k) sl22 rfl rfl (by first | rfl | omega) (by omega) rfl (TL.done ⟨rfl, rfl⟩)) ?_
      refine TQ.guardYes (d := 49) rfl rfl rfl ?_
      refine TQ.call (u32 (Bits.sumT (lb.take k))) can12 rfl rfl (fun w2 hw2 => (fn12 w2 _ _ (Rd.bytes (lb.take k) (((hb.ch0 hch).ch0 hw2).to (by omega)) (by simp; omega) (by simp))).mono fun _ _ ⟨h1, h2⟩ => ⟨h1, hw2.trans0 h2⟩) ?_
      refine TQ.guardYes (d := 49) rfl rfl rfl ?_
      refine TQ.via rfl rfl rfl rfl (fun w2 hw2 => TL.xor_u32 rfl rfl rfl (TL.done ⟨rfl, rfl⟩)) ?_
      refine TQ.guardYes (d := 49) rfl rfl rfl ?_
      refine TQ.via rfl rfl rfl rfl (fun w2 hw2 => TL.move rfl rfl (TL.done ⟨rfl, rfl⟩)) ?_
      refine TQ.guardYes (d := 49) rfl rfl rfl ?_
      refine TQ.via rfl rfl rfl rfl (fun w2 hw2 => TL.move rfl rfl (TL.done ⟨rfl, rfl⟩)) ?_
      refine TQ.guardYes (d := 49) rfl rfl rfl ?_
      refine TQ.via rfl rfl rfl rfl (fun w2 hw2 => TL.sliceTo (k) sl22 rfl rfl (by first | rfl | omega) (by omega) rfl (TL.done ⟨rfl, rfl⟩)) ?_
      refine TQ.guardYes (d := 49) rfl rfl rfl ?_
      refine TQ.call (u32 (Bits.sumT (lc.take k))) can12 rfl rfl (fun w2 hw2 => (fn12 w2 _ _ (Rd.bytes (lc.take k) (((hc.ch0 hch).ch0 hw2).to (by omega)) (by simp; omega) (by simp))).mono fun _ _ ⟨h1, h2⟩ => ⟨h1, hw2.trans0 h2⟩) ?_
      refine TQ.guardYes (d := 49) rfl rfl rfl ?_
      refine TQ.via rfl rfl rfl rfl (fun w2 hw2 => TL.xor_u32 rfl rfl rfl (TL.done ⟨rfl, rfl⟩)) ?_
      refine TQ.guardYes (d := 49) rfl rfl rfl ?_
      refine TQ.via rfl rfl rfl rfl (fun w2 hw2 => TL.eql rfl rfl rfl (TL.done ⟨rfl, rfl⟩)) ?_
      refine TQ.yes (by rw [hsum]) ?_
      refine TQ.via rfl rfl rfl rfl (fun w2 hw2 => TL.pickT rfl rfl rfl rfl (TL.done ⟨rfl, rfl⟩)) ?_
      refine TQ.via rfl rfl rfl rfl (fun w2 hw2 => TL.assign rfl rfl (TL.done ⟨rfl, rfl⟩)) ?_
      refine TQ.done (fun w2 hw2 => ?_)
      refine Thn.go ?_
      refine TC.ret ?_
      refine Ends.ret [6] rfl rfl ?_
      exact ⟨rfl, hch.trans0 hw2⟩

theorem fn3 (va : Value) (l : List UInt8) (at_ : Int) (by_ : UInt32) (w : World) (ha : Rd w va 1 l.length (l.map u8)) : Rets Try.prog 3 #[va, .int .i64 at_, u32 by_] w (fun v w' => v = .bool true ∧ Ch [] w w') := by
  obtain ⟨aa, ca, rfl, _⟩ := ha.shape
  refine Rets.of (n := 81) (vs := [_, _, _]) Try.func3 rfl rfl rfl ?_
  refine TC.seq ?_
  refine TC.region ?_
  refine TL.assign rfl rfl ?_
  refine TL.done ?_
  refine Thn.go ?_
  refine TC.seq ?_
  refine TC.region ?_
  refine TL.call can11 rfl rfl (fn11 w) (fun v12 w12 hr12 => ?_)
  obtain ⟨rfl, hc12⟩ := hr12
  refine TL.assign rfl rfl ?_
  refine TL.done ?_
  refine Thn.go ?_
  refine TC.seq ?_
  refine TC.seq ?_
  refine TC.region ?_
  refine TL.move rfl rfl ?_
  refine TL.not rfl rfl ?_
  refine TL.done ?_
  refine Thn.go ?_
  refine TC.condF rfl rfl ?_
  refine TC.skip ?_
  refine Thn.go ?_
  refine TC.seq ?_
  refine TC.regionBool (d := 31) (p := (10000 : Int) < l.length ∨ at_ < 0 ∨ (l.length : Int) ≤ at_ ∨ (by_.toNat : Int) = 0) (fun K2 hK2 => ?_) ?_
  ·
    refine TL.move rfl rfl ?_
    refine TL.lenSlice Try.underlying22 rfl rfl ?_
    refine TL.gtr rfl rfl rfl ?_
    refine TL.em (fun e17 => ?_) (fun e17 => ?_)
    ·
      refine TL.move rfl rfl ?_
      refine TL.guardNo (d := 18) rfl rfl rfl rfl rfl ?_
      refine TL.guardNo (d := 18) rfl rfl rfl rfl rfl ?_
      refine TL.pickT rfl rfl rfl rfl ?_
      refine TL.move rfl rfl ?_
      refine TL.guardNo (d := 22) rfl rfl rfl rfl rfl ?_
      refine TL.guardNo (d := 22) rfl rfl rfl rfl rfl ?_
      refine TL.guardNo (d := 22) rfl rfl rfl rfl rfl ?_
      refine TL.guardNo (d := 22) rfl rfl rfl rfl rfl ?_
      refine TL.pickT rfl rfl rfl rfl ?_
      refine TL.move rfl rfl ?_
      refine TL.guardNo (d := 28) rfl rfl rfl rfl rfl ?_
      refine TL.guardNo (d := 28) rfl rfl rfl rfl rfl ?_
      refine TL.pickT rfl rfl rfl rfl ?_
      refine TL.done ?_
      refine hK2 _ ?_
      refine Le.here rfl (by first | exact decide_eq_true (by omega) | exact decide_eq_false (by omega) | exact decide_eq_decide.2 (by omega)) ?_
      repeat (first | exact Le.refl _ | refine Le.skip rfl ?_)
    ·
      refine TL.move rfl rfl ?_
      refine TL.guardYes (d := 18) rfl rfl rfl ?_
      refine TL.move rfl rfl ?_
      refine TL.guardYes (d := 18) rfl rfl rfl ?_
      refine TL.lss rfl rfl rfl ?_
      refine TL.em (fun e20 => ?_) (fun e20 => ?_)
      ·
        refine TL.pickF rfl rfl rfl rfl ?_
        refine TL.move rfl rfl ?_
        refine TL.guardNo (d := 22) rfl rfl rfl rfl rfl ?_
        refine TL.guardNo (d := 22) rfl rfl rfl rfl rfl ?_
        refine TL.guardNo (d := 22) rfl rfl rfl rfl rfl ?_
        refine TL.guardNo (d := 22) rfl rfl rfl rfl rfl ?_
        refine TL.pickT rfl rfl rfl rfl ?_
        refine TL.move rfl rfl ?_
        refine TL.guardNo (d := 28) rfl rfl rfl rfl rfl ?_
        refine TL.guardNo (d := 28) rfl rfl rfl rfl rfl ?_
        refine TL.pickT rfl rfl rfl rfl ?_
        refine TL.done ?_
        refine hK2 _ ?_
        refine Le.here rfl (by first | exact decide_eq_true (by omega) | exact decide_eq_false (by omega) | exact decide_eq_decide.2 (by omega)) ?_
        repeat (first | exact Le.refl _ | refine Le.skip rfl ?_)
      ·
        refine TL.pickF rfl rfl rfl rfl ?_
        refine TL.move rfl rfl ?_
        refine TL.guardYes (d := 22) rfl rfl rfl ?_
        refine TL.move rfl rfl ?_
        refine TL.guardYes (d := 22) rfl rfl rfl ?_
        refine TL.move rfl rfl ?_
        refine TL.guardYes (d := 22) rfl rfl rfl ?_
        refine TL.lenSlice Try.underlying22 rfl rfl ?_
        refine TL.guardYes (d := 22) rfl rfl rfl ?_
        refine TL.geq rfl rfl rfl ?_
        refine TL.em (fun e26 => ?_) (fun e26 => ?_)
        ·
          refine TL.pickF rfl rfl rfl rfl ?_
          refine TL.move rfl rfl ?_
          refine TL.guardNo (d := 28) rfl rfl rfl rfl rfl ?_
          refine TL.guardNo (d := 28) rfl rfl rfl rfl rfl ?_
          refine TL.pickT rfl rfl rfl rfl ?_
          refine TL.done ?_
          refine hK2 _ ?_
          refine Le.here rfl (by first | exact decide_eq_true (by omega) | exact decide_eq_false (by omega) | exact decide_eq_decide.2 (by omega)) ?_
          repeat (first | exact Le.refl _ | refine Le.skip rfl ?_)
        ·
          refine TL.pickF rfl rfl rfl rfl ?_
          refine TL.move rfl rfl ?_
          refine TL.guardYes (d := 28) rfl rfl rfl ?_
          refine TL.move rfl rfl ?_
          refine TL.guardYes (d := 28) rfl rfl rfl ?_
          refine TL.eql rfl rfl rfl ?_
          refine TL.pickF rfl rfl rfl rfl ?_
          refine TL.done ?_
          refine hK2 _ ?_
          refine Le.here rfl (by first | exact decide_eq_true (by omega) | exact decide_eq_false (by omega) | exact decide_eq_decide.2 (by omega)) ?_
          repeat (first | exact Le.refl _ | refine Le.skip rfl ?_)
  refine TC.condP rfl (fun h6 => ?_) (fun h6 => ?_)
  ·
    refine TC.seq ?_
    refine TC.region ?_
    refine TL.move rfl rfl ?_
    refine TL.assign rfl rfl ?_
    refine TL.done ?_
    refine Thn.go ?_
    refine TC.ret ?_
    refine Thn.ret ?_
    refine Ends.ret [6] rfl rfl ?_
    exact ⟨rfl, hc12⟩
  ·
    obtain ⟨A, rfl⟩ : ∃ A : Nat, at_ = (A : Int) := ⟨at_.toNat, by omega⟩
    have hA : A < l.length := by omega
    have hmx : maxLen = 9223372036854775807 := rfl
    refine TC.skip ?_
    refine Thn.go ?_
    refine TC.seq ?_
    refine TC.region ?_
    refine TL.move rfl rfl ?_
    refine TL.append sl22 rfl rfl rfl (World.ownsRow_nil _ w12.heap.size _ _) (News.ofRd Try.underlying22 (ha.ch0 hc12) (one_u8 _)) (by omega) (by omega) (by omega) (fun v34 w34 hv34 hc34 _ => ?_)
    have hv34' := hv34.bytes l (by omega) (by simp)
    clear hv34
    obtain ⟨g, c8, rfl⟩ := hv34'.form (by omega)
    obtain ⟨cur0, hh0, hs0, hlc, _, hg0, ht0⟩ := hv34'.has
    refine TL.assign rfl rfl ?_
    refine TL.done ?_
    refine Thn.go ?_
    refine TC.seq ?_
    refine TC.region ?_
    refine TL.assign rfl rfl ?_
    refine TL.done ?_
    refine Thn.go ?_
    refine TC.seq ?_
    refine TC.seq ?_
    refine TC.region ?_
    refine TL.assign rfl rfl ?_
    refine TL.done ?_
    refine Thn.go ?_
    refine TC.block ?_
    refine TC.loop1 (fun (k : Nat) => [(0, .slice aa l.length ca), (1, .int .i64 (A : Int)), (2, u32 by_), (7, .bool true), (8, .slice (some ⟨g, 0, none⟩) l.length c8), (9, .bool ((List.range k).any fun j => Bits.dby by_ j != 0)), (10, .int .i64 (k : Int))]) (fun k w' => k ≤ 4 ∧ A + k ≤ l.length ∧ (∃ cur, Has w' g cur 5 (0, 0) ∧ cur.size = c8 ∧ cur.toList.take l.length = (Bits.zipX l (Bits.window by_ A k l.length)).map u8) ∧ Ch [] w w') (fun k => 4 - k) 0 (by repeat (first | exact trivial | refine ⟨rfl, ?_⟩)) (⟨by omega, by omega, ⟨cur0, hh0, by omega, by rw [Bits.window_zero _ _ _ (by omega), Bits.zipX_zero]; simpa using ht0⟩, hc12.thenS hc34 (by simp [blk, Value.ownBlock])⟩) (fun k w' hH => ?_)
    obtain ⟨hk4, hkl, ⟨cur, hh, hcs, htake⟩, hch⟩ := hH
    refine TC.seq ?_
    refine TC.regionBool (d := 44) (p := (k : Int) < 4 ∧ (A : Int) + k < l.length) (fun K7 hK7 => ?_) ?_
    ·
      refine TL.move rfl rfl ?_
      refine TL.lss rfl rfl rfl ?_
      refine TL.em (fun e36 => ?_) (fun e36 => ?_)
      ·
        refine TL.move rfl rfl ?_
        refine TL.guardYes (d := 37) rfl rfl rfl ?_
        refine TL.move rfl rfl ?_
        refine TL.guardYes (d := 37) rfl rfl rfl ?_
        refine TL.move rfl rfl ?_
        refine TL.guardYes (d := 37) rfl rfl rfl ?_
        refine TL.add_i64 rfl rfl (by omega) (by omega) rfl ?_
        refine TL.guardYes (d := 37) rfl rfl rfl ?_
        refine TL.move rfl rfl ?_
        refine TL.guardYes (d := 37) rfl rfl rfl ?_
        refine TL.lenSlice Try.underlying22 rfl rfl ?_
        refine TL.guardYes (d := 37) rfl rfl rfl ?_
        refine TL.lss rfl rfl rfl ?_
        refine TL.pickT rfl rfl rfl rfl ?_
        refine TL.done ?_
        refine hK7 _ ?_
        refine Le.here rfl (by first | exact decide_eq_true (by omega) | exact decide_eq_false (by omega) | exact decide_eq_decide.2 (by omega)) ?_
        repeat (first | exact Le.refl _ | refine Le.skip rfl ?_)
      ·
        refine TL.move rfl rfl ?_
        refine TL.guardNo (d := 37) rfl rfl rfl rfl rfl ?_
        refine TL.guardNo (d := 37) rfl rfl rfl rfl rfl ?_
        refine TL.guardNo (d := 37) rfl rfl rfl rfl rfl ?_
        refine TL.guardNo (d := 37) rfl rfl rfl rfl rfl ?_
        refine TL.guardNo (d := 37) rfl rfl rfl rfl rfl ?_
        refine TL.guardNo (d := 37) rfl rfl rfl rfl rfl ?_
        refine TL.pickF rfl rfl rfl rfl ?_
        refine TL.done ?_
        refine hK7 _ ?_
        refine Le.here rfl (by first | exact decide_eq_true (by omega) | exact decide_eq_false (by omega) | exact decide_eq_decide.2 (by omega)) ?_
        repeat (first | exact Le.refl _ | refine Le.skip rfl ?_)
    refine TC.condP rfl (fun h9 => ?_) (fun h9 => ?_)
    ·
      obtain ⟨x0, hx0, hset⟩ := Bits.turn_step by_ l (at_ := A) (k := k) (by omega)
      have hcur : cur[A + k]? = some (u8 x0) := by
        have := congrArg (fun z : List Value => z[A + k]?) htake
        simp only [List.getElem?_take, if_pos (show A + k < l.length by omega), Array.getElem?_toList, List.getElem?_map, hx0] at this
        exact this
      refine TC.skip ?_
      refine Thn.go ?_
      refine TC.seq ?_
      refine TC.block ?_
      refine TC.seq ?_
      refine TC.region ?_
      refine TL.move rfl rfl ?_
      refine TL.move rfl rfl ?_
      refine TL.mul_i64 rfl rfl (by omega) (by omega) rfl ?_
      refine TL.shr_u32 rfl rfl (by omega) rfl ?_
      refine TL.conv_u8 Try.underlying23 Try.underlying5 rfl rfl ?_
      refine TL.assign rfl rfl ?_
      refine TL.done ?_
      refine Thn.go ?_
      refine TC.seq ?_
      refine TC.region ?_
      refine TL.move rfl rfl ?_
      refine TL.move rfl rfl ?_
      refine TL.move rfl rfl ?_
      refine TL.add_i64 rfl rfl (by omega) (by omega) rfl ?_
      refine TL.move rfl rfl ?_
      refine TL.move rfl rfl ?_
      refine TL.move rfl rfl ?_
      refine TL.add_i64 rfl rfl (by omega) (by omega) rfl ?_
      refine TL.indexAddr (A + k) sl22 rfl rfl (by first | rfl | omega) (by omega) rfl ?_
      refine TL.load pl5 rfl (by rw [hh.cell, Nat.mul_one, Nat.zero_add]; exact hcur) rfl ?_
      refine TL.move rfl rfl ?_
      refine TL.xor_u8 rfl rfl rfl ?_
      refine TL.indexAddr (A + k) sl22 rfl rfl (by first | rfl | omega) (by omega) rfl ?_
      refine TL.store sz5 rfl rfl rfl (hh) (by first | omega | simp [Value.cells]) (by simp [Value.cells, Value.oneCell']) (.inl rfl) (fun ws1 hbs1 hcs1 hzs1 => ?_)
      replace hbs1 := hbs1.setOne rfl (by omega)
      have htake2 : (cur.setIfInBounds (0 + (A + k) * 1) (u8 (x0 ^^^ Bits.dby by_ k))).toList.take l.length = (Bits.zipX l (Bits.window by_ A (k + 1) l.length)).map u8 := by
        rw [Nat.mul_one, Nat.zero_add, Array.toList_setIfInBounds, List.take_set, htake, ← List.map_set, hset]
      refine TL.done ?_
      refine Thn.go ?_
      refine TC.region ?_
      refine TL.move rfl rfl ?_
      refine TL.emB (fun e65 => ?_) (fun e65 => ?_)
      ·
        refine TL.move rfl rfl ?_
        refine TL.guardNo (d := 66) rfl rfl rfl rfl rfl ?_
        refine TL.guardNo (d := 66) rfl rfl rfl rfl rfl ?_
        refine TL.pickT rfl rfl rfl rfl ?_
        refine TL.assign rfl rfl ?_
        refine TL.done ?_
        refine Blk.go ?_
        refine Thn.go ?_
        refine TC.region ?_
        refine TL.move rfl rfl ?_
        refine TL.add_i64 rfl rfl (by omega) (by omega) rfl ?_
        refine TL.assign rfl rfl ?_
        refine TL.done ?_
        refine Lp.go (k + 1) ⟨rfl, rfl, rfl, rfl, rfl, by rw [Bits.any_succ, e65]; rfl, rfl, trivial⟩ ?_ (by omega)
        exact ⟨by omega, by omega, ⟨_, hbs1, by simpa using hcs, htake2⟩, hch.then1 hcs1 (by have := hc12.size; omega)⟩
      ·
        refine TL.move rfl rfl ?_
        refine TL.guardYes (d := 66) rfl rfl rfl ?_
        refine TL.move rfl rfl ?_
        refine TL.guardYes (d := 66) rfl rfl rfl ?_
        refine TL.neq rfl rfl rfl ?_
        refine TL.pickF rfl rfl rfl rfl ?_
        refine TL.assign rfl rfl ?_
        refine TL.done ?_
        refine Blk.go ?_
        refine Thn.go ?_
        refine TC.region ?_
        refine TL.move rfl rfl ?_
        refine TL.add_i64 rfl rfl (by omega) (by omega) rfl ?_
        refine TL.assign rfl rfl ?_
        refine TL.done ?_
        refine Lp.go (k + 1) ⟨rfl, rfl, rfl, rfl, rfl, by rw [Bits.any_succ, e65, Bool.false_or, ← Bits.ne0]; rfl, rfl, trivial⟩ ?_ (by omega)
        exact ⟨by omega, by omega, ⟨_, hbs1, by simpa using hcs, htake2⟩, hch.then1 hcs1 (by have := hc12.size; omega)⟩
    ·
      have hkk : k ≤ 4 := hk4
      have hturn := Bits.turned_sum by_ l A k hkl hk4
      have hcl : Rd w' (.slice (some ⟨g, 0, none⟩) l.length c8) 1 (Bits.zipX l (Bits.window by_ A k l.length)).length ((Bits.zipX l (Bits.window by_ A k l.length)).map u8) := by
        have hzl : (Bits.zipX l (Bits.window by_ A k l.length)).length = l.length := by rw [Bits.zipX_len, Bits.window_len hkl]; omega
        rw [hzl]
        exact .inr ⟨g, 0, c8, cur, 5, (0, 0), rfl, hh, hlc, by omega, by omega, by rw [List.drop_zero, Nat.mul_one, htake]⟩
      refine TC.exit ?_
      refine Thn.exit ?_
      refine Lp.exit ?_
      refine Blk.hit ?_
      refine Thn.go ?_
      refine TC.seq ?_
      refine TC.region ?_
      refine TL.move rfl rfl ?_
      refine TL.move rfl rfl ?_
      refine TL.guardYes (d := 71) rfl rfl rfl ?_
      refine TL.move rfl rfl ?_
      refine TL.guardYes (d := 71) rfl rfl rfl ?_
      refine TL.call can12 rfl rfl (fn12 w' _ l (ha.ch0 hch)) (fun v73 w73 hr73 => ?_)
      obtain ⟨rfl, hs1⟩ := hr73
      refine TL.guardYes (d := 71) rfl rfl rfl ?_
      refine TL.move rfl rfl ?_
      refine TL.guardYes (d := 71) rfl rfl rfl ?_
      refine TL.call can12 rfl rfl (fn12 w73 _ _ (hcl.ch0 hs1)) (fun v75 w75 hr75 => ?_)
      obtain ⟨rfl, hs2⟩ := hr75
      refine TL.guardYes (d := 71) rfl rfl rfl ?_
      refine TL.eql rfl rfl rfl ?_
      refine TL.guardYes (d := 71) rfl rfl rfl ?_
      refine TL.move rfl rfl ?_
      refine TL.guardYes (d := 71) rfl rfl rfl ?_
      refine TL.not rfl rfl ?_
      refine TL.guardYes (d := 71) rfl rfl rfl ?_
      refine TL.eqlBool Try.underlying4 rfl rfl rfl ?_
      refine TL.yes (Bits.turned_bool hturn) ?_
      refine TL.pickT rfl rfl rfl rfl ?_
      refine TL.assign rfl rfl ?_
      refine TL.done ?_
      refine Thn.go ?_
      refine TC.ret ?_
      refine Ends.ret [6] rfl rfl ?_
      exact ⟨rfl, (hch.trans0 hs1).trans0 hs2⟩

end Go.Proofs.Ytmfclhhnkocgiaa

