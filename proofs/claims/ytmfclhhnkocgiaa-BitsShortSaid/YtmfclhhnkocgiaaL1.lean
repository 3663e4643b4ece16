import Derived.Test.YtmfclhhnkocgiaaF2
namespace Go.Proofs.Ytmfclhhnkocgiaa
open Go.Lane
theorem can11 : Callable Try.prog 11 := ⟨Try.f11, Try.func11, by kernel_rfl, rfl⟩

theorem fn5 (n : UInt64) (w : World) : Rets Try.prog 5 #[u64 n] w (fun v w' => v = .bool true ∧ Ch [] w w') := by
  have hten := Bits.small_len64 n
  have hpos := Bits.small_pos n.toNat
  have h128 : ∀ x : UInt64, (x / 128).toNat = x.toNat / 128 := fun x => by rw [UInt64.toNat_div]; rfl
  refine Rets.of (n := 41) (vs := [_]) Try.func5 rfl rfl rfl ?_
  refine TC.seq ?_
  refine TC.region ?_
  refine TL.assign rfl rfl ?_
  refine TL.done ?_
  refine Thn.go ?_
  refine TC.seq ?_
  refine TC.region ?_
  refine TL.call can11 rfl rfl (fn11 w) (fun v1 w1 hr1 => ?_)
  obtain ⟨rfl, hc1⟩ := hr1
  refine TL.assign rfl rfl ?_
  refine TL.done ?_
  refine Thn.go ?_
  refine TC.seq ?_
  refine TC.seq ?_
  refine TC.region ?_
  refine TL.move rfl rfl ?_
  refine TL.not rfl rfl ?_
  refine TL.done ?_
  refine Thn.go ?_
  refine TC.condF rfl rfl ?_
  refine TC.skip ?_
  refine Thn.go ?_
  refine TC.seq ?_
  refine TC.region ?_
  refine TL.assign rfl rfl ?_
  refine TL.done ?_
  refine Thn.go ?_
  refine TC.seq ?_
  refine TC.seq ?_
  refine TC.region ?_
  refine TL.move rfl rfl ?_
  refine TL.quo_u64 (b := 128) rfl rfl (by decide) rfl ?_
  refine TL.assign rfl rfl ?_
  refine TL.done ?_
  refine Thn.go ?_
  refine TC.block ?_
  refine TC.loop2 (fun (k : Nat) (x : UInt64) => [(0, u64 n), (3, .bool true), (4, .int .i64 (k : Int)), (5, u64 x)]) (fun k x w' => k + Bits.cnt x.toNat = (Bits.small n.toNat).length ∧ w' = w1) (fun _ x => x.toNat) 1 (n / 128) (by repeat (first | exact trivial | refine ⟨rfl, ?_⟩)) (⟨by rw [h128, Bits.small_cnt], rfl⟩) (fun k x w' hH => ?_)
  obtain ⟨hk, rfl⟩ := hH
  refine TC.seq ?_
  refine TC.seq ?_
  refine TC.region ?_
  refine TL.move rfl rfl ?_
  refine TL.gtr rfl rfl rfl ?_
  refine TL.done ?_
  refine Thn.go ?_
  refine TC.condP rfl (fun h3 => ?_) (fun h3 => ?_)
  ·
    have hcp := Bits.cnt_pos (x := x.toNat) (by omega)
    have hx8 := h128 x
    refine TC.skip ?_
    refine Thn.go ?_
    refine TC.seq ?_
    refine TC.block ?_
    refine TC.region ?_
    refine TL.move rfl rfl ?_
    refine TL.add_i64 rfl rfl (by omega) (by omega) rfl ?_
    refine TL.assign rfl rfl ?_
    refine TL.done ?_
    refine Blk.go ?_
    refine Thn.go ?_
    refine TC.region ?_
    refine TL.move rfl rfl ?_
    refine TL.quo_u64 (b := 128) rfl rfl (by decide) rfl ?_
    refine TL.assign rfl rfl ?_
    refine TL.done ?_
    refine Lp.go ((k + 1, x / 128)) (by repeat (first | exact trivial | refine ⟨rfl, ?_⟩)) (?_) (by show (x / 128).toNat < x.toNat; rw [hx8]; omega)
    exact ⟨by show k + 1 + Bits.cnt (x / 128).toNat = _; rw [hx8]; omega, rfl⟩
  ·
    have hx0 : x.toNat = 0 := by omega
    rw [hx0, Bits.cnt_zero] at hk
    refine TC.exit ?_
    refine Thn.exit ?_
    refine Lp.exit ?_
    refine Blk.hit ?_
    refine Thn.go ?_
    refine TC.seq ?_
    refine TC.region ?_
    refine TL.move rfl rfl ?_
    refine TL.call can13 rfl rfl (fn13 n w') (fun v4 w4 hr4 => ?_)
    obtain ⟨hv4, hc4⟩ := hr4
    obtain ⟨g4, c4, rfl⟩ := hv4.form hpos
    refine TL.assign rfl rfl ?_
    refine TL.done ?_
    refine Thn.go ?_
    refine TC.seq ?_
    refine TC.region ?_
    refine TL.move rfl rfl ?_
    refine TL.move rfl rfl ?_
    refine TL.guardYes (d := 21) rfl rfl rfl ?_
    refine TL.move rfl rfl ?_
    refine TL.guardYes (d := 21) rfl rfl rfl ?_
    refine TL.lenSlice Try.underlying22 rfl rfl ?_
    refine TL.guardYes (d := 21) rfl rfl rfl ?_
    refine TL.move rfl rfl ?_
    refine TL.guardYes (d := 21) rfl rfl rfl ?_
    refine TL.eql rfl rfl rfl ?_
    refine TL.yes (by omega) ?_
    refine TL.pickT rfl rfl rfl rfl ?_
    refine TL.move rfl rfl ?_
    refine TL.guardYes (d := 27) rfl rfl rfl ?_
    refine TL.move rfl rfl ?_
    refine TL.guardYes (d := 27) rfl rfl rfl ?_
    refine TL.call can14 rfl rfl (fn14 n w4) (fun v5 w5 hr5 => ?_)
    obtain ⟨b5, rfl, hb5, hh5, hc5⟩ := hr5
    refine TL.guardYes (d := 27) rfl rfl rfl ?_
    refine TL.lenSlice Try.underlying22 rfl rfl ?_
    refine TL.guardYes (d := 27) rfl rfl rfl ?_
    refine TL.eql rfl rfl rfl ?_
    refine TL.yes (rfl) ?_
    refine TL.pickT rfl rfl rfl rfl ?_
    refine TL.move rfl rfl ?_
    refine TL.guardYes (d := 33) rfl rfl rfl ?_
    refine TL.move rfl rfl ?_
    refine TL.guardYes (d := 33) rfl rfl rfl ?_
    refine TL.move rfl rfl ?_
    refine TL.guardYes (d := 33) rfl rfl rfl ?_
    refine TL.sub_i64 rfl rfl (by omega) (by omega) rfl ?_
    refine TL.guardYes (d := 33) rfl rfl rfl ?_
    refine TL.indexAddr (k - 1) sl22 rfl rfl (by first | rfl | omega) (by omega) rfl ?_
    obtain ⟨b, hb, hb128⟩ := Bits.small_last n.toNat
    obtain ⟨gg, off, hgg, hcell⟩ := (Rd.ofOwn (hv4.ch0 hc5)).at0 (i := k - 1) (by omega)
    cases hgg
    rw [List.getElem?_map, show k - 1 = (Bits.small n.toNat).length - 1 by omega, hb] at hcell
    refine TL.guardYes (d := 33) rfl rfl rfl ?_
    refine TL.load pl5 rfl (by rw [Nat.mul_one, show k - 1 = (Bits.small n.toNat).length - 1 by omega]; exact hcell) rfl ?_
    refine TL.guardYes (d := 33) rfl rfl rfl ?_
    refine TL.lss rfl rfl rfl ?_
    refine TL.yes (by omega) ?_
    refine TL.pickT rfl rfl rfl rfl ?_
    refine TL.assign rfl rfl ?_
    refine TL.done ?_
    refine Thn.go ?_
    refine TC.ret ?_
    refine Ends.ret [2] rfl rfl ?_
    exact ⟨rfl, (hc1.trans0 hc4).trans0 hc5⟩

end Go.Proofs.Ytmfclhhnkocgiaa

