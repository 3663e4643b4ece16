/-
  Walks through the given program: each theorem fnN says what the call of function N of the translation hands back, for all arguments that its premises describe, and that nothing that was there has turned.
-/
import Derived.Test.YtmfclhhnkocgiaaL1
import Derived.Test.YtmfclhhnkocgiaaRead
import Derived.Test.YtmfclhhnkocgiaaLaneG
namespace Go.Proofs.Ytmfclhhnkocgiaa
open Go.Lane
theorem av53 : ArrV Try.prog 53 8 5 := ⟨Try.underlying53, ⟨_, Try.underlying5, rfl⟩, by kernel_rfl⟩
theorem can17 : Callable Try.prog 17 := ⟨Try.f17, Try.func17, by kernel_rfl, rfl⟩
theorem can18 : Callable Try.prog 18 := ⟨Try.f18, Try.func18, by kernel_rfl, rfl⟩
theorem can21 : Callable Try.prog 21 := ⟨Try.f21, Try.func21, by kernel_rfl, rfl⟩
theorem can28 : Callable Try.prog 28 := ⟨Try.f28, Try.func28, by kernel_rfl, rfl⟩

theorem fn17 (a : Value) (l : List UInt8) (w : World) (ha : Rd w a 1 l.length (l.map u8)) : Rets Try.prog 17 #[a] w (fun v w' => v = .tuple #[u64 (UInt64.ofNat (Bits.rdN (Bits.read l))), .int .i64 (Bits.rdK (Bits.read l) : Int), .int .i64 (Bits.rdE (Bits.read l) : Int)] ∧ w' = w) := by
  obtain ⟨ad, c, rfl, _⟩ := ha.shape
  have hmx : l.length ≤ 9223372036854775807 := ha.nlt
  refine Rets.of (n := 41) (vs := [_]) Try.func17 rfl rfl rfl ?_
  refine TC.seq ?_
  refine TC.region ?_
  refine TL.assign rfl rfl ?_
  refine TL.assign rfl rfl ?_
  refine TL.assign rfl rfl ?_
  refine TL.done ?_
  refine Thn.go ?_
  refine TC.seq ?_
  refine TC.region ?_
  refine TL.assign rfl rfl ?_
  refine TL.done ?_
  refine Thn.go ?_
  refine TC.seq ?_
  refine TC.seq ?_
  refine TC.region ?_
  refine TL.move rfl rfl ?_
  refine TL.lenSlice Try.underlying22 rfl rfl ?_
  refine TL.move rfl rfl ?_
  refine TL.done ?_
  refine Thn.go ?_
  refine TC.block ?_
  refine TC.loop2 (fun (k n : Nat) => [(0, .slice ad l.length c), (5, u64 (UInt64.ofNat n)), (8, .slice ad l.length c), (9, .int .i64 (l.length : Int)), (10, .int .i64 (k : Int))]) (fun k n w' => k ≤ l.length ∧ k ≤ 9 ∧ n < 2 ^ (7 * k) ∧ Bits.rdF k n (l.drop k) = Bits.read l ∧ w' = w) (fun k _ => l.length - k) 0 0 (by repeat (first | exact trivial | refine ⟨rfl, ?_⟩)) (⟨by omega, by omega, by decide, rfl, rfl⟩) (fun k n w' hH => ?_)
  obtain ⟨hk, hk9, hn, hrd, rfl⟩ := hH
  refine TC.seq ?_
  refine TC.region ?_
  refine TL.lss rfl rfl rfl ?_
  refine TL.done ?_
  refine Thn.go ?_
  refine TC.seq ?_
  refine TC.condP rfl (fun h1 => ?_) (fun h1 => ?_)
  ·
    have hkl : k < l.length := by omega
    obtain ⟨b, off, rfl, hcell⟩ := ha.byteAt hkl
    have hb := UInt8.toNat_lt (l.getD k 0)
    rw [Bits.drop_getD hkl, Bits.rdF] at hrd
    refine TC.skip ?_
    refine Thn.go ?_
    refine TC.seq ?_
    refine TC.block ?_
    refine TC.seq ?_
    refine TC.region ?_
    refine TL.move rfl rfl ?_
    refine TL.indexAddr (k) sl22 rfl rfl (by first | rfl | omega) (by omega) rfl ?_
    refine TL.load pl5 rfl (hcell) rfl ?_
    refine TL.assign rfl rfl ?_
    refine TL.assign rfl rfl ?_
    refine TL.done ?_
    refine Thn.go ?_
    refine TC.seq ?_
    refine TC.regionBool (d := 20) (p := (k = 9 ∧ 1 < (l.getD k 0).toNat)) (fun K2 hK2 => ?_) ?_
    ·
      refine TL.move rfl rfl ?_
      refine TL.eql rfl rfl rfl ?_
      refine TL.em (fun e16 => ?_) (fun e16 => ?_)
      ·
        refine TL.move rfl rfl ?_
        refine TL.guardYes (d := 17) rfl rfl rfl ?_
        refine TL.move rfl rfl ?_
        refine TL.guardYes (d := 17) rfl rfl rfl ?_
        refine TL.gtr rfl rfl rfl ?_
        refine TL.pickT rfl rfl rfl rfl ?_
        refine TL.done ?_
        refine hK2 _ ?_
        refine Le.here rfl (by first | exact decide_eq_true (by omega) | exact decide_eq_false (by omega) | exact decide_eq_decide.2 (by omega)) ?_
        repeat (first | exact Le.refl _ | refine Le.skip rfl ?_)
      ·
        refine TL.move rfl rfl ?_
        refine TL.guardNo (d := 17) rfl rfl rfl rfl rfl ?_
        refine TL.guardNo (d := 17) rfl rfl rfl rfl rfl ?_
        refine TL.pickF rfl rfl rfl rfl ?_
        refine TL.done ?_
        refine hK2 _ ?_
        refine Le.here rfl (by first | exact decide_eq_true (by omega) | exact decide_eq_false (by omega) | exact decide_eq_decide.2 (by omega)) ?_
        repeat (first | exact Le.refl _ | refine Le.skip rfl ?_)
    refine TC.condP rfl (fun h4 => ?_) (fun h4 => ?_)
    ·
      rw [if_pos h4] at hrd
      refine TC.exit ?_
      refine Thn.exit ?_
      refine Blk.miss rfl ?_
      refine Thn.exit ?_
      refine Lp.exit ?_
      refine Blk.hit ?_
      refine Thn.go ?_
      refine TC.seq ?_
      refine TC.region ?_
      refine TL.assign rfl rfl ?_
      refine TL.assign rfl rfl ?_
      refine TL.assign rfl rfl ?_
      refine TL.done ?_
      refine Thn.go ?_
      refine TC.ret ?_
      refine Ends.ret [2, 3, 4] rfl rfl ?_
      exact ⟨by rw [← hrd]; rfl, rfl⟩
    ·
      rw [if_neg h4] at hrd
      refine TC.skip ?_
      refine Thn.go ?_
      refine TC.seq ?_
      refine TC.region ?_
      refine TL.move rfl rfl ?_
      refine TL.move rfl rfl ?_
      refine TL.and_u8 (b := 127) rfl rfl rfl ?_
      refine TL.conv_u64 Try.underlying5 Try.underlying28 rfl rfl ?_
      refine TL.move rfl rfl ?_
      refine TL.mul_i64 rfl rfl (by omega) (by omega) rfl ?_
      refine TL.shl_u64 rfl rfl (by omega) rfl ?_
      refine TL.top (v' := u64 (UInt64.ofNat ((l.getD k 0).toNat % 128 * 2 ^ (7 * k)))) (by rw [Bits.shl7]) ?_
      refine TL.or_u64 rfl rfl rfl ?_
      refine TL.top (v' := u64 (UInt64.ofNat (n + (l.getD k 0).toNat % 128 * 2 ^ (7 * k)))) (by rw [(Bits.or_step hn hk9 (Nat.mod_lt _ (by decide)) (fun e => by omega)).1]) ?_
      refine TL.assign rfl rfl ?_
      refine TL.done ?_
      refine Thn.go ?_
      refine TC.seq ?_
      refine TC.region ?_
      refine TL.move rfl rfl ?_
      refine TL.lss rfl rfl rfl ?_
      refine TL.done ?_
      refine Thn.go ?_
      refine TC.condP rfl (fun h5 => ?_) (fun h5 => ?_)
      ·
        rw [if_pos (by omega)] at hrd
        refine TC.seq ?_
        refine TC.regionBool (d := 36) (p := ((l.getD k 0).toNat = 0 ∧ 0 < k)) (fun K6 hK6 => ?_) ?_
        ·
          refine TL.move rfl rfl ?_
          refine TL.eql rfl rfl rfl ?_
          refine TL.em (fun e32 => ?_) (fun e32 => ?_)
          ·
            refine TL.move rfl rfl ?_
            refine TL.guardYes (d := 33) rfl rfl rfl ?_
            refine TL.move rfl rfl ?_
            refine TL.guardYes (d := 33) rfl rfl rfl ?_
            refine TL.gtr rfl rfl rfl ?_
            refine TL.pickT rfl rfl rfl rfl ?_
            refine TL.done ?_
            refine hK6 _ ?_
            refine Le.here rfl (by first | exact decide_eq_true (by omega) | exact decide_eq_false (by omega) | exact decide_eq_decide.2 (by omega)) ?_
            repeat (first | exact Le.refl _ | refine Le.skip rfl ?_)
          ·
            refine TL.move rfl rfl ?_
            refine TL.guardNo (d := 33) rfl rfl rfl rfl rfl ?_
            refine TL.guardNo (d := 33) rfl rfl rfl rfl rfl ?_
            refine TL.pickF rfl rfl rfl rfl ?_
            refine TL.done ?_
            refine hK6 _ ?_
            refine Le.here rfl (by first | exact decide_eq_true (by omega) | exact decide_eq_false (by omega) | exact decide_eq_decide.2 (by omega)) ?_
            repeat (first | exact Le.refl _ | refine Le.skip rfl ?_)
        refine TC.condP rfl (fun h8 => ?_) (fun h8 => ?_)
        ·
          rw [if_pos h8] at hrd
          refine TC.exit ?_
          refine Thn.exit ?_
          refine Blk.miss rfl ?_
          refine Thn.exit ?_
          refine Lp.exit ?_
          refine Blk.hit ?_
          refine Thn.go ?_
          refine TC.seq ?_
          refine TC.region ?_
          refine TL.assign rfl rfl ?_
          refine TL.assign rfl rfl ?_
          refine TL.assign rfl rfl ?_
          refine TL.done ?_
          refine Thn.go ?_
          refine TC.ret ?_
          refine Ends.ret [2, 3, 4] rfl rfl ?_
          exact ⟨by rw [← hrd]; rfl, rfl⟩
        ·
          rw [if_neg h8] at hrd
          refine TC.skip ?_
          refine Thn.go ?_
          refine TC.seq ?_
          refine TC.region ?_
          refine TL.move rfl rfl ?_
          refine TL.move rfl rfl ?_
          refine TL.add_i64 rfl rfl (by omega) (by omega) rfl ?_
          refine TL.assign rfl rfl ?_
          refine TL.assign rfl rfl ?_
          refine TL.assign rfl rfl ?_
          refine TL.done ?_
          refine Thn.go ?_
          refine TC.ret ?_
          refine Blk.ret ?_
          refine Thn.ret ?_
          refine Lp.ret ?_
          refine Blk.ret ?_
          refine Thn.ret ?_
          refine Ends.ret [2, 3, 4] rfl rfl ?_
          exact ⟨by rw [← hrd, Nat.mod_eq_of_lt (a := (l.getD k 0).toNat) (by omega)]; rfl, rfl⟩
      ·
        rw [if_neg (by omega)] at hrd
        refine TC.skip ?_
        refine Blk.go ?_
        refine Thn.go ?_
        refine TC.region ?_
        refine TL.add_i64 rfl rfl (by omega) (by omega) rfl ?_
        refine TL.move rfl rfl ?_
        refine TL.done ?_
        refine Lp.go ((k + 1, n + (l.getD k 0).toNat % 128 * 2 ^ (7 * k))) (by repeat (first | exact trivial | refine ⟨rfl, ?_⟩)) (?_) (by show l.length - (k + 1) < l.length - k; omega)
        refine ⟨by show k + 1 ≤ _; omega, by show k + 1 ≤ 9; omega, ?_, hrd, rfl⟩
        show n + (l.getD k 0).toNat % 128 * 2 ^ (7 * k) < 2 ^ (7 * (k + 1))
        have e1 : (l.getD k 0).toNat % 128 * 2 ^ (7 * k) ≤ 127 * 2 ^ (7 * k) := Nat.mul_le_mul_right _ (by omega)
        rw [Bits.pow7]; omega
  ·
    have hend : k = l.length := by omega
    rw [hend, List.drop_length] at hrd
    refine TC.exit ?_
    refine Thn.exit ?_
    refine Lp.exit ?_
    refine Blk.hit ?_
    refine Thn.go ?_
    refine TC.seq ?_
    refine TC.region ?_
    refine TL.assign rfl rfl ?_
    refine TL.assign rfl rfl ?_
    refine TL.assign rfl rfl ?_
    refine TL.done ?_
    refine Thn.go ?_
    refine TC.ret ?_
    refine Ends.ret [2, 3, 4] rfl rfl ?_
    exact ⟨by rw [← hrd]; rfl, rfl⟩

theorem fn18 (a : Value) (l : List UInt8) (w : World) (ha : Rd w a 1 l.length (l.map u8)) : Rets Try.prog 18 #[a] w (fun v w' => v = .tuple #[u64 (UInt64.ofNat (Bits.rdN (Bits.read l))), .int .i64 (Bits.rdK (Bits.read l) : Int), .int .i64 (Bits.rdE (Bits.read l) : Int)] ∧ w' = w) := by
  obtain ⟨ad, c, rfl, _⟩ := ha.shape
  have hmx : l.length ≤ 9223372036854775807 := ha.nlt
  refine Rets.of (n := 71) (vs := [_]) Try.func18 rfl rfl rfl ?_
  refine TC.seq ?_
  refine TC.region ?_
  refine TL.assign rfl rfl ?_
  refine TL.assign rfl rfl ?_
  refine TL.assign rfl rfl ?_
  refine TL.done ?_
  refine Thn.go ?_
  refine TC.seq ?_
  refine TC.region ?_
  refine TL.assign rfl rfl ?_
  refine TL.done ?_
  refine Thn.go ?_
  refine TC.seq ?_
  refine TC.block ?_
  refine TC.loop1 (fun (k : Nat) => [(0, .slice ad l.length c), (5, .int .i64 (k : Int))]) (fun k w' => k ≤ l.length ∧ k ≤ 10 ∧ Bits.lead l = k + Bits.leadF (10 - k) (l.drop k) ∧ w' = w) (fun k => l.length - k) 0 (by repeat (first | exact trivial | refine ⟨rfl, ?_⟩)) (⟨by omega, by omega, by simp [Bits.lead], rfl⟩) (fun k w' hH => ?_)
  obtain ⟨hk, hk10, hld, rfl⟩ := hH
  refine TC.seq ?_
  refine TC.regionBool (d := 22) (p := (k < l.length ∧ k < 10 ∧ 128 ≤ (l.getD k 0).toNat)) (fun K1 hK1 => ?_) ?_
  ·
    refine TL.move rfl rfl ?_
    refine TL.move rfl rfl ?_
    refine TL.lenSlice Try.underlying22 rfl rfl ?_
    refine TL.lss rfl rfl rfl ?_
    refine TL.em (fun e11 => ?_) (fun e11 => ?_)
    ·
      have hkl : k < l.length := by omega
      obtain ⟨b, off, rfl, hcell⟩ := ha.byteAt hkl
      refine TL.move rfl rfl ?_
      refine TL.guardYes (d := 12) rfl rfl rfl ?_
      refine TL.move rfl rfl ?_
      refine TL.guardYes (d := 12) rfl rfl rfl ?_
      refine TL.lss rfl rfl rfl ?_
      refine TL.em (fun e14 => ?_) (fun e14 => ?_)
      ·
        refine TL.pickT rfl rfl rfl rfl ?_
        refine TL.move rfl rfl ?_
        refine TL.guardYes (d := 16) rfl rfl rfl ?_
        refine TL.move rfl rfl ?_
        refine TL.guardYes (d := 16) rfl rfl rfl ?_
        refine TL.move rfl rfl ?_
        refine TL.guardYes (d := 16) rfl rfl rfl ?_
        refine TL.indexAddr (k) sl22 rfl rfl (by first | rfl | omega) (by omega) rfl ?_
        refine TL.guardYes (d := 16) rfl rfl rfl ?_
        refine TL.load pl5 rfl (hcell) rfl ?_
        refine TL.guardYes (d := 16) rfl rfl rfl ?_
        refine TL.geq rfl rfl rfl ?_
        refine TL.pickT rfl rfl rfl rfl ?_
        refine TL.done ?_
        refine hK1 _ ?_
        refine Le.here rfl (by first | exact decide_eq_true (by omega) | exact decide_eq_false (by omega) | exact decide_eq_decide.2 (by omega)) ?_
        repeat (first | exact Le.refl _ | refine Le.skip rfl ?_)
      ·
        refine TL.pickT rfl rfl rfl rfl ?_
        refine TL.move rfl rfl ?_
        refine TL.guardNo (d := 16) rfl rfl rfl rfl rfl ?_
        refine TL.guardNo (d := 16) rfl rfl rfl rfl rfl ?_
        refine TL.guardNo (d := 16) rfl rfl rfl rfl rfl ?_
        refine TL.guardNo (d := 16) rfl rfl rfl rfl rfl ?_
        refine TL.guardNo (d := 16) rfl rfl rfl rfl rfl ?_
        refine TL.pickF rfl rfl rfl rfl ?_
        refine TL.done ?_
        refine hK1 _ ?_
        refine Le.here rfl (by first | exact decide_eq_true (by omega) | exact decide_eq_false (by omega) | exact decide_eq_decide.2 (by omega)) ?_
        repeat (first | exact Le.refl _ | refine Le.skip rfl ?_)
    ·
      refine TL.move rfl rfl ?_
      refine TL.guardNo (d := 12) rfl rfl rfl rfl rfl ?_
      refine TL.guardNo (d := 12) rfl rfl rfl rfl rfl ?_
      refine TL.pickF rfl rfl rfl rfl ?_
      refine TL.move rfl rfl ?_
      refine TL.guardNo (d := 16) rfl rfl rfl rfl rfl ?_
      refine TL.guardNo (d := 16) rfl rfl rfl rfl rfl ?_
      refine TL.guardNo (d := 16) rfl rfl rfl rfl rfl ?_
      refine TL.guardNo (d := 16) rfl rfl rfl rfl rfl ?_
      refine TL.guardNo (d := 16) rfl rfl rfl rfl rfl ?_
      refine TL.pickF rfl rfl rfl rfl ?_
      refine TL.done ?_
      refine hK1 _ ?_
      refine Le.here rfl (by first | exact decide_eq_true (by omega) | exact decide_eq_false (by omega) | exact decide_eq_decide.2 (by omega)) ?_
      repeat (first | exact Le.refl _ | refine Le.skip rfl ?_)
  refine TC.condP rfl (fun h4 => ?_) (fun h4 => ?_)
  ·
    refine TC.skip ?_
    refine Thn.go ?_
    refine TC.block ?_
    refine TC.region ?_
    refine TL.move rfl rfl ?_
    refine TL.add_i64 rfl rfl (by omega) (by omega) rfl ?_
    refine TL.assign rfl rfl ?_
    refine TL.done ?_
    refine Blk.go ?_
    refine Lp.go (k + 1) (by repeat (first | exact trivial | refine ⟨rfl, ?_⟩)) ?_ (by first | omega | (dsimp only; omega))
    refine ⟨by omega, by omega, ?_, rfl⟩
    rw [hld, show 10 - k = (10 - (k + 1)) + 1 by omega, Bits.leadF_step h4.1 h4.2.2]; omega
  ·
    have hlead : Bits.lead l = k := by
      rw [hld, Bits.leadF_stop (by omega)]; rfl
    have href := Bits.read_ref l
    rw [hlead] at href
    refine TC.exit ?_
    refine Thn.exit ?_
    refine Lp.exit ?_
    refine Blk.hit ?_
    refine Thn.go ?_
    refine TC.seq ?_
    refine TC.regionBool (d := 53) (p := (Bits.bad 0 l k)) (fun K5 hK5 => ?_) ?_
    ·
      refine TL.move rfl rfl ?_
      refine TL.move rfl rfl ?_
      refine TL.lenSlice Try.underlying22 rfl rfl ?_
      refine TL.geq rfl rfl rfl ?_
      refine TL.em (fun e28 => ?_) (fun e28 => ?_)
      ·
        refine TL.move rfl rfl ?_
        refine TL.guardNo (d := 29) rfl rfl rfl rfl rfl ?_
        refine TL.guardNo (d := 29) rfl rfl rfl rfl rfl ?_
        refine TL.pickT rfl rfl rfl rfl ?_
        refine TL.move rfl rfl ?_
        refine TL.guardNo (d := 33) rfl rfl rfl rfl rfl ?_
        refine TL.guardNo (d := 33) rfl rfl rfl rfl rfl ?_
        refine TL.guardNo (d := 33) rfl rfl rfl rfl rfl ?_
        refine TL.guardUndef (d := 36) rfl rfl rfl rfl ?_
        refine TL.guardUndef (d := 36) rfl rfl rfl rfl ?_
        refine TL.guardUndef (d := 36) rfl rfl rfl rfl ?_
        refine TL.guardUndef (d := 36) rfl rfl rfl rfl ?_
        refine TL.guardNo (d := 33) rfl rfl rfl rfl rfl ?_
        refine TL.pickT rfl rfl rfl rfl ?_
        refine TL.move rfl rfl ?_
        refine TL.guardNo (d := 43) rfl rfl rfl rfl rfl ?_
        refine TL.guardNo (d := 43) rfl rfl rfl rfl rfl ?_
        refine TL.guardNo (d := 43) rfl rfl rfl rfl rfl ?_
        refine TL.guardUndef (d := 46) rfl rfl rfl rfl ?_
        refine TL.guardUndef (d := 46) rfl rfl rfl rfl ?_
        refine TL.guardUndef (d := 46) rfl rfl rfl rfl ?_
        refine TL.guardUndef (d := 46) rfl rfl rfl rfl ?_
        refine TL.guardUndef (d := 46) rfl rfl rfl rfl ?_
        refine TL.guardNo (d := 43) rfl rfl rfl rfl rfl ?_
        refine TL.pickT rfl rfl rfl rfl ?_
        refine TL.done ?_
        refine hK5 _ ?_
        refine Le.here rfl (by first | exact decide_eq_true (by unfold Bits.bad; omega) | exact decide_eq_false (by unfold Bits.bad; omega) | exact decide_eq_decide.2 (by unfold Bits.bad; omega)) ?_
        repeat (first | exact Le.refl _ | refine Le.skip rfl ?_)
      ·
        refine TL.move rfl rfl ?_
        refine TL.guardYes (d := 29) rfl rfl rfl ?_
        refine TL.move rfl rfl ?_
        refine TL.guardYes (d := 29) rfl rfl rfl ?_
        refine TL.geq rfl rfl rfl ?_
        refine TL.em (fun e31 => ?_) (fun e31 => ?_)
        ·
          refine TL.pickF rfl rfl rfl rfl ?_
          refine TL.move rfl rfl ?_
          refine TL.guardNo (d := 33) rfl rfl rfl rfl rfl ?_
          refine TL.guardNo (d := 33) rfl rfl rfl rfl rfl ?_
          refine TL.guardNo (d := 33) rfl rfl rfl rfl rfl ?_
          refine TL.guardUndef (d := 36) rfl rfl rfl rfl ?_
          refine TL.guardUndef (d := 36) rfl rfl rfl rfl ?_
          refine TL.guardUndef (d := 36) rfl rfl rfl rfl ?_
          refine TL.guardUndef (d := 36) rfl rfl rfl rfl ?_
          refine TL.guardNo (d := 33) rfl rfl rfl rfl rfl ?_
          refine TL.pickT rfl rfl rfl rfl ?_
          refine TL.move rfl rfl ?_
          refine TL.guardNo (d := 43) rfl rfl rfl rfl rfl ?_
          refine TL.guardNo (d := 43) rfl rfl rfl rfl rfl ?_
          refine TL.guardNo (d := 43) rfl rfl rfl rfl rfl ?_
          refine TL.guardUndef (d := 46) rfl rfl rfl rfl ?_
          refine TL.guardUndef (d := 46) rfl rfl rfl rfl ?_
          refine TL.guardUndef (d := 46) rfl rfl rfl rfl ?_
          refine TL.guardUndef (d := 46) rfl rfl rfl rfl ?_
          refine TL.guardUndef (d := 46) rfl rfl rfl rfl ?_
          refine TL.guardNo (d := 43) rfl rfl rfl rfl rfl ?_
          refine TL.pickT rfl rfl rfl rfl ?_
          refine TL.done ?_
          refine hK5 _ ?_
          refine Le.here rfl (by first | exact decide_eq_true (by unfold Bits.bad; omega) | exact decide_eq_false (by unfold Bits.bad; omega) | exact decide_eq_decide.2 (by unfold Bits.bad; omega)) ?_
          repeat (first | exact Le.refl _ | refine Le.skip rfl ?_)
        ·
          refine TL.pickF rfl rfl rfl rfl ?_
          refine TL.move rfl rfl ?_
          refine TL.guardYes (d := 33) rfl rfl rfl ?_
          refine TL.move rfl rfl ?_
          refine TL.guardYes (d := 33) rfl rfl rfl ?_
          refine TL.eql rfl rfl rfl ?_
          refine TL.em (fun e35 => ?_) (fun e35 => ?_)
          ·
            have hk9 : k = 9 := by omega
            subst hk9
            obtain ⟨b, off, rfl, hcell⟩ := ha.byteAt (i := 9) (by omega)
            refine TL.guardYes (d := 33) rfl rfl rfl ?_
            refine TL.move rfl rfl ?_
            refine TL.guardYes (d := 36) rfl rfl rfl ?_
            refine TL.move rfl rfl ?_
            refine TL.guardYes (d := 36) rfl rfl rfl ?_
            refine TL.indexAddr (9) sl22 rfl rfl (by first | rfl | omega) (by omega) rfl ?_
            refine TL.guardYes (d := 36) rfl rfl rfl ?_
            refine TL.load pl5 rfl (hcell) rfl ?_
            refine TL.guardYes (d := 36) rfl rfl rfl ?_
            refine TL.gtr rfl rfl rfl ?_
            refine TL.em (fun e40 => ?_) (fun e40 => ?_)
            ·
              refine TL.guardYes (d := 33) rfl rfl rfl ?_
              refine TL.pickT rfl rfl rfl rfl ?_
              refine TL.pickF rfl rfl rfl rfl ?_
              refine TL.move rfl rfl ?_
              refine TL.guardNo (d := 43) rfl rfl rfl rfl rfl ?_
              refine TL.guardNo (d := 43) rfl rfl rfl rfl rfl ?_
              refine TL.guardNo (d := 43) rfl rfl rfl rfl rfl ?_
              refine TL.guardUndef (d := 46) rfl rfl rfl rfl ?_
              refine TL.guardUndef (d := 46) rfl rfl rfl rfl ?_
              refine TL.guardUndef (d := 46) rfl rfl rfl rfl ?_
              refine TL.guardUndef (d := 46) rfl rfl rfl rfl ?_
              refine TL.guardUndef (d := 46) rfl rfl rfl rfl ?_
              refine TL.guardNo (d := 43) rfl rfl rfl rfl rfl ?_
              refine TL.pickT rfl rfl rfl rfl ?_
              refine TL.done ?_
              refine hK5 _ ?_
              refine Le.here rfl (by first | exact decide_eq_true (by unfold Bits.bad; omega) | exact decide_eq_false (by unfold Bits.bad; omega) | exact decide_eq_decide.2 (by unfold Bits.bad; omega)) ?_
              repeat (first | exact Le.refl _ | refine Le.skip rfl ?_)
            ·
              refine TL.guardYes (d := 33) rfl rfl rfl ?_
              refine TL.pickT rfl rfl rfl rfl ?_
              refine TL.pickF rfl rfl rfl rfl ?_
              refine TL.move rfl rfl ?_
              refine TL.guardYes (d := 43) rfl rfl rfl ?_
              refine TL.move rfl rfl ?_
              refine TL.guardYes (d := 43) rfl rfl rfl ?_
              refine TL.gtr rfl rfl rfl ?_
              refine TL.em (fun e45 => ?_) (fun e45 => ?_)
              ·
                refine TL.guardYes (d := 43) rfl rfl rfl ?_
                refine TL.move rfl rfl ?_
                refine TL.guardYes (d := 46) rfl rfl rfl ?_
                refine TL.move rfl rfl ?_
                refine TL.guardYes (d := 46) rfl rfl rfl ?_
                refine TL.move rfl rfl ?_
                refine TL.guardYes (d := 46) rfl rfl rfl ?_
                refine TL.indexAddr (9) sl22 rfl rfl (by first | rfl | omega) (by omega) rfl ?_
                refine TL.guardYes (d := 46) rfl rfl rfl ?_
                refine TL.load pl5 rfl (hcell) rfl ?_
                refine TL.guardYes (d := 46) rfl rfl rfl ?_
                refine TL.eql rfl rfl rfl ?_
                refine TL.guardYes (d := 43) rfl rfl rfl ?_
                refine TL.pickT rfl rfl rfl rfl ?_
                refine TL.pickF rfl rfl rfl rfl ?_
                refine TL.done ?_
                refine hK5 _ ?_
                refine Le.here rfl (by first | exact decide_eq_true (by unfold Bits.bad; omega) | exact decide_eq_false (by unfold Bits.bad; omega) | exact decide_eq_decide.2 (by unfold Bits.bad; omega)) ?_
                repeat (first | exact Le.refl _ | refine Le.skip rfl ?_)
              ·
                refine TL.guardYes (d := 43) rfl rfl rfl ?_
                refine TL.move rfl rfl ?_
                refine TL.guardNo (d := 46) rfl rfl rfl rfl rfl ?_
                refine TL.guardNo (d := 46) rfl rfl rfl rfl rfl ?_
                refine TL.guardNo (d := 46) rfl rfl rfl rfl rfl ?_
                refine TL.guardNo (d := 46) rfl rfl rfl rfl rfl ?_
                refine TL.guardNo (d := 46) rfl rfl rfl rfl rfl ?_
                refine TL.guardYes (d := 43) rfl rfl rfl ?_
                refine TL.pickF rfl rfl rfl rfl ?_
                refine TL.pickF rfl rfl rfl rfl ?_
                refine TL.done ?_
                refine hK5 _ ?_
                refine Le.here rfl (by first | exact decide_eq_true (by unfold Bits.bad; omega) | exact decide_eq_false (by unfold Bits.bad; omega) | exact decide_eq_decide.2 (by unfold Bits.bad; omega)) ?_
                repeat (first | exact Le.refl _ | refine Le.skip rfl ?_)
          ·
            refine TL.guardYes (d := 33) rfl rfl rfl ?_
            refine TL.move rfl rfl ?_
            refine TL.guardNo (d := 36) rfl rfl rfl rfl rfl ?_
            refine TL.guardNo (d := 36) rfl rfl rfl rfl rfl ?_
            refine TL.guardNo (d := 36) rfl rfl rfl rfl rfl ?_
            refine TL.guardNo (d := 36) rfl rfl rfl rfl rfl ?_
            refine TL.guardYes (d := 33) rfl rfl rfl ?_
            refine TL.pickF rfl rfl rfl rfl ?_
            refine TL.pickF rfl rfl rfl rfl ?_
            refine TL.move rfl rfl ?_
            refine TL.guardYes (d := 43) rfl rfl rfl ?_
            refine TL.move rfl rfl ?_
            refine TL.guardYes (d := 43) rfl rfl rfl ?_
            refine TL.gtr rfl rfl rfl ?_
            refine TL.em (fun e45 => ?_) (fun e45 => ?_)
            ·
              obtain ⟨b, off, rfl, hcell⟩ := ha.byteAt (i := k) (by omega)
              refine TL.guardYes (d := 43) rfl rfl rfl ?_
              refine TL.move rfl rfl ?_
              refine TL.guardYes (d := 46) rfl rfl rfl ?_
              refine TL.move rfl rfl ?_
              refine TL.guardYes (d := 46) rfl rfl rfl ?_
              refine TL.move rfl rfl ?_
              refine TL.guardYes (d := 46) rfl rfl rfl ?_
              refine TL.indexAddr (k) sl22 rfl rfl (by first | rfl | omega) (by omega) rfl ?_
              refine TL.guardYes (d := 46) rfl rfl rfl ?_
              refine TL.load pl5 rfl (hcell) rfl ?_
              refine TL.guardYes (d := 46) rfl rfl rfl ?_
              refine TL.eql rfl rfl rfl ?_
              refine TL.guardYes (d := 43) rfl rfl rfl ?_
              refine TL.pickT rfl rfl rfl rfl ?_
              refine TL.pickF rfl rfl rfl rfl ?_
              refine TL.done ?_
              refine hK5 _ ?_
              refine Le.here rfl (by first | exact decide_eq_true (by unfold Bits.bad; omega) | exact decide_eq_false (by unfold Bits.bad; omega) | exact decide_eq_decide.2 (by unfold Bits.bad; omega)) ?_
              repeat (first | exact Le.refl _ | refine Le.skip rfl ?_)
            ·
              refine TL.guardYes (d := 43) rfl rfl rfl ?_
              refine TL.move rfl rfl ?_
              refine TL.guardNo (d := 46) rfl rfl rfl rfl rfl ?_
              refine TL.guardNo (d := 46) rfl rfl rfl rfl rfl ?_
              refine TL.guardNo (d := 46) rfl rfl rfl rfl rfl ?_
              refine TL.guardNo (d := 46) rfl rfl rfl rfl rfl ?_
              refine TL.guardNo (d := 46) rfl rfl rfl rfl rfl ?_
              refine TL.guardYes (d := 43) rfl rfl rfl ?_
              refine TL.pickF rfl rfl rfl rfl ?_
              refine TL.pickF rfl rfl rfl rfl ?_
              refine TL.done ?_
              refine hK5 _ ?_
              refine Le.here rfl (by first | exact decide_eq_true (by unfold Bits.bad; omega) | exact decide_eq_false (by unfold Bits.bad; omega) | exact decide_eq_decide.2 (by unfold Bits.bad; omega)) ?_
              repeat (first | exact Le.refl _ | refine Le.skip rfl ?_)
    refine TC.condP rfl (fun h12 => ?_) (fun h12 => ?_)
    ·
      refine TC.seq ?_
      refine TC.region ?_
      refine TL.assign rfl rfl ?_
      refine TL.assign rfl rfl ?_
      refine TL.assign rfl rfl ?_
      refine TL.done ?_
      refine Thn.go ?_
      refine TC.ret ?_
      refine Thn.ret ?_
      refine Ends.ret [2, 3, 4] rfl rfl ?_
      exact ⟨by rw [href.1 h12]; rfl, rfl⟩
    ·
      have hrd := href.2 h12
      have hkl : k < l.length := by unfold Bits.bad at h12; omega
      refine TC.skip ?_
      refine Thn.go ?_
      refine TC.seq ?_
      refine TC.region ?_
      refine TL.assign rfl rfl ?_
      refine TL.top (v' := u64 (UInt64.ofNat (Bits.hv ((l.take (k + 1)).drop (k + 1))))) (by rw [Bits.hv_end]; rfl) ?_
      refine TL.done ?_
      refine Thn.go ?_
      refine TC.seq ?_
      refine TC.seq ?_
      refine TC.region ?_
      refine TL.move rfl rfl ?_
      refine TL.top (v' := .int .i64 (((k + 1 : Nat) : Int) - 1)) (by congr 1; omega) ?_
      refine TL.assign rfl rfl ?_
      refine TL.done ?_
      refine Thn.go ?_
      refine TC.block ?_
      refine TC.loop1 (fun (j : Nat) => [(0, .slice ad l.length c), (5, .int .i64 (k : Int)), (6, u64 (UInt64.ofNat (Bits.hv ((l.take (k + 1)).drop j)))), (7, .int .i64 ((j : Int) - 1))]) (fun j w'' => j ≤ k + 1 ∧ w'' = w') (fun j => j) (k + 1) (by repeat (first | exact trivial | refine ⟨rfl, ?_⟩)) (⟨by omega, rfl⟩) (fun j w'' hH => ?_)
      obtain ⟨hj, rfl⟩ := hH
      refine TC.seq ?_
      refine TC.seq ?_
      refine TC.region ?_
      refine TL.move rfl rfl ?_
      refine TL.geq rfl rfl rfl ?_
      refine TL.done ?_
      refine Thn.go ?_
      refine TC.condP rfl (fun h13 => ?_) (fun h13 => ?_)
      ·
        obtain ⟨j, rfl⟩ : ∃ i, j = i + 1 := ⟨j - 1, by omega⟩
        obtain ⟨b, off, rfl, hcell⟩ := ha.byteAt (i := j) (by omega)
        refine TC.skip ?_
        refine Thn.go ?_
        refine TC.seq ?_
        refine TC.block ?_
        refine TC.region ?_
        refine TL.move rfl rfl ?_
        refine TL.mul_u64 (b := 128) rfl rfl rfl ?_
        refine TL.move rfl rfl ?_
        refine TL.move rfl rfl ?_
        refine TL.indexAddr (j) sl22 rfl rfl (by first | rfl | omega) (by omega) rfl ?_
        refine TL.load pl5 rfl (hcell) rfl ?_
        refine TL.rem_u8 (b := 128) rfl rfl (by decide) rfl ?_
        refine TL.conv_u64 Try.underlying5 Try.underlying28 rfl rfl ?_
        refine TL.add_u64 rfl rfl rfl ?_
        refine TL.top (v' := u64 (UInt64.ofNat (Bits.hv ((l.take (k + 1)).drop j)))) (by rw [Bits.hv_at (show j ≤ k by omega) hkl, UInt8.toNat_mod]; exact congrArg u64 (Bits.hv_step _ _)) ?_
        refine TL.assign rfl rfl ?_
        refine TL.done ?_
        refine Blk.go ?_
        refine Thn.go ?_
        refine TC.region ?_
        refine TL.move rfl rfl ?_
        refine TL.sub_i64 rfl rfl (by omega) (by omega) rfl ?_
        refine TL.top (v' := .int .i64 ((j : Int) - 1)) (by congr 1; omega) ?_
        refine TL.assign rfl rfl ?_
        refine TL.done ?_
        refine Lp.go (j) (by repeat (first | exact trivial | refine ⟨rfl, ?_⟩)) ?_ (by first | omega | (dsimp only; omega))
        exact ⟨by omega, rfl⟩
      ·
        obtain rfl : j = 0 := by omega
        refine TC.exit ?_
        refine Thn.exit ?_
        refine Lp.exit ?_
        refine Blk.hit ?_
        refine Thn.go ?_
        refine TC.seq ?_
        refine TC.region ?_
        refine TL.move rfl rfl ?_
        refine TL.move rfl rfl ?_
        refine TL.add_i64 rfl rfl (by omega) (by omega) rfl ?_
        refine TL.assign rfl rfl ?_
        refine TL.assign rfl rfl ?_
        refine TL.assign rfl rfl ?_
        refine TL.done ?_
        refine Thn.go ?_
        refine TC.ret ?_
        refine Ends.ret [2, 3, 4] rfl rfl ?_
        exact ⟨by rw [hrd]; rfl, rfl⟩

theorem fn19 (a b : Value) (l m : List UInt8) (w : World) (ha : Rd w a 1 l.length (l.map u8)) (hb : Rd w b 1 m.length (m.map u8)) : Rets Try.prog 19 #[a, b] w (fun v w' => v = .bool (decide (l = m)) ∧ w' = w) := by
  refine Rets.of (n := 10) (vs := [_, _]) Try.func19 rfl rfl rfl ?_
  refine TC.seq ?_
  refine TC.region ?_
  refine TL.assign rfl rfl ?_
  refine TL.done ?_
  refine Thn.go ?_
  refine TC.seq ?_
  refine TC.region ?_
  refine TL.move rfl rfl ?_
  refine TL.bytesToStr Try.underlying22 Try.underlying5 Try.underlying9 rfl (ha) rfl ?_
  refine TL.move rfl rfl ?_
  refine TL.bytesToStr Try.underlying22 Try.underlying5 Try.underlying9 rfl (hb) rfl ?_
  refine TL.eqlStr rfl rfl rfl ?_
  refine TL.assign rfl rfl ?_
  refine TL.done ?_
  refine Thn.go ?_
  refine TC.ret ?_
  refine Ends.ret [4] rfl rfl ?_
  exact ⟨rfl, rfl⟩

theorem fn15 (a : Value) (l : List UInt8) (w : World) (ha : Rd w a 1 l.length (l.map u8)) : Rets Try.prog 15 #[a] w (fun v w' => v = .tuple #[u64 (UInt64.ofNat (Bits.getN l)), .int .i64 (Bits.getE l : Int)] ∧ Ch [] w w') := by
  obtain ⟨ad, c, rfl, hnil⟩ := ha.shape
  have hmx : l.length ≤ 9223372036854775807 := ha.nlt
  refine Rets.of (n := 28) (vs := [_]) Try.func15 rfl rfl rfl ?_
  refine TC.seq ?_
  refine TC.region ?_
  refine TL.assign rfl rfl ?_
  refine TL.assign rfl rfl ?_
  refine TL.done ?_
  refine Thn.go ?_
  refine TC.seq ?_
  refine TC.seq ?_
  refine TC.region ?_
  refine TL.move rfl rfl ?_
  refine TL.lenSlice Try.underlying22 rfl rfl ?_
  refine TL.neq rfl rfl rfl ?_
  refine TL.done ?_
  refine Thn.go ?_
  refine TC.condP rfl (fun h1 => ?_) (fun h1 => ?_)
  ·
    have h8 : ¬ l.length = 8 := by omega
    refine TC.seq ?_
    refine TC.region ?_
    refine TL.assign rfl rfl ?_
    refine TL.assign rfl rfl ?_
    refine TL.done ?_
    refine Thn.go ?_
    refine TC.ret ?_
    refine Thn.ret ?_
    refine Ends.ret [2, 3] rfl rfl ?_
    exact ⟨by unfold Bits.getN Bits.getE; rw [if_neg h8, if_neg h8]; rfl, Ch.refl _ _⟩
  ·
    have h8 : l.length = 8 := by omega
    obtain ⟨b, off, rfl, _⟩ := ha.byteAt (i := 0) (by omega)
    refine TC.skip ?_
    refine Thn.go ?_
    refine TC.seq ?_
    refine TC.region ?_
    refine TL.move rfl rfl ?_
    refine TL.arrayPtr Try.underlying53 rfl (by omega) rfl ?_
    refine TL.loadAgg (l.map u8) ag53 rfl (by simpa using h8) (fun j hj => by obtain ⟨b', off', e, hc⟩ := ha.byteAt (i := j) (by omega); cases e; rw [Nat.mul_one] at hc; rw [hc, List.getElem?_map, map_getD l j 0 (by omega)]; rfl) rfl ?_
    refine TL.alloc ze53 rfl (fun w4 hb4 hc4 hz4 => ?_)
    refine TL.store sz53 rfl rfl (by simpa [Value.cells] using h8) hb4 (by simp [Value.cells]) (by simp [Value.cells, Value.oneCell']) (.inl rfl) (fun ws1 hbs1 hcs1 hzs1 => ?_)
    replace hbs1 := hbs1.setAll (by simp [Value.cells, h8])
    refine TL.done ?_
    refine Thn.go ?_
    refine TC.seq ?_
    refine TC.region ?_
    refine TL.assign rfl rfl ?_
    refine TL.done ?_
    refine Thn.go ?_
    refine TC.seq ?_
    refine TC.seq ?_
    refine TC.region ?_
    refine TL.loadAgg (l.map u8) ag53 rfl (by simpa using h8) (fun j hj => by rw [hbs1.cell, Nat.zero_add]; simp [Value.cells]) rfl ?_
    have hch : Ch [] w ws1 := hc4.then1 hcs1 (Nat.le_refl _)
    refine TL.move rfl rfl ?_
    refine TL.done ?_
    refine Thn.go ?_
    refine TC.block ?_
    refine TC.loop1 (fun (k : Nat) => [(5, u64 (UInt64.ofNat (Bits.le (l.take k)))), (14, .agg (l.map u8).toArray), (15, .int .i64 (k : Int))]) (fun k w' => k ≤ 8 ∧ w' = ws1) (fun k => 8 - k) 0 (by repeat (first | exact trivial | refine ⟨rfl, ?_⟩)) (⟨by omega, rfl⟩) (fun k w' hH => ?_)
    obtain ⟨hk, rfl⟩ := hH
    refine TC.seq ?_
    refine TC.region ?_
    refine TL.lss rfl rfl rfl ?_
    refine TL.done ?_
    refine Thn.go ?_
    refine TC.seq ?_
    refine TC.condP rfl (fun h2 => ?_) (fun h2 => ?_)
    ·
      have hkl : k < l.length := by omega
      have hb8 := UInt8.toNat_lt (l.getD k 0)
      have hle := Bits.le_lt (l.take k)
      rw [List.length_take, Nat.min_eq_left (by omega)] at hle
      refine TC.skip ?_
      refine Thn.go ?_
      refine TC.seq ?_
      refine TC.block ?_
      refine TC.seq ?_
      refine TC.region ?_
      refine TL.move rfl rfl ?_
      refine TL.index (k) av53 rfl rfl (by first | rfl | omega) (by omega) (by rw [List.getElem?_toArray, List.getElem?_map, map_getD l k 0 hkl]; rfl) rfl ?_
      refine TL.assign rfl rfl ?_
      refine TL.assign rfl rfl ?_
      refine TL.done ?_
      refine Thn.go ?_
      refine TC.region ?_
      refine TL.move rfl rfl ?_
      refine TL.move rfl rfl ?_
      refine TL.conv_u64 Try.underlying5 Try.underlying28 rfl rfl ?_
      refine TL.move rfl rfl ?_
      refine TL.mul_i64 rfl rfl (by omega) (by omega) rfl ?_
      refine TL.shl_u64 rfl rfl (by omega) rfl ?_
      refine TL.top (v' := u64 (UInt64.ofNat ((l.getD k 0).toNat * 2 ^ (8 * k)))) (by rw [Bits.shl8]) ?_
      refine TL.or_u64 rfl rfl rfl ?_
      refine TL.top (v' := u64 (UInt64.ofNat (Bits.le (l.take (k + 1))))) (by rw [(Bits.get_step hle (by omega) hb8).1, Bits.le_take hkl]) ?_
      refine TL.assign rfl rfl ?_
      refine TL.done ?_
      refine Blk.go ?_
      refine Thn.go ?_
      refine TC.region ?_
      refine TL.add_i64 rfl rfl (by omega) (by omega) rfl ?_
      refine TL.move rfl rfl ?_
      refine TL.done ?_
      refine Lp.go (k + 1) (by repeat (first | exact trivial | refine ⟨rfl, ?_⟩)) ?_ (by first | omega | (dsimp only; omega))
      exact ⟨by omega, rfl⟩
    ·
      have hk8 : k = l.length := by omega
      rw [hk8, List.take_length]
      refine TC.exit ?_
      refine Thn.exit ?_
      refine Lp.exit ?_
      refine Blk.hit ?_
      refine Thn.go ?_
      refine TC.seq ?_
      refine TC.region ?_
      refine TL.move rfl rfl ?_
      refine TL.assign rfl rfl ?_
      refine TL.assign rfl rfl ?_
      refine TL.done ?_
      refine Thn.go ?_
      refine TC.ret ?_
      refine Ends.ret [2, 3] rfl rfl ?_
      exact ⟨by unfold Bits.getN Bits.getE; rw [if_pos h8, if_pos h8]; rfl, hch⟩

theorem fn16 (a : Value) (l : List UInt8) (w : World) (ha : Rd w a 1 l.length (l.map u8)) : Rets Try.prog 16 #[a] w (fun v w' => v = .tuple #[u64 (UInt64.ofNat (Bits.getN l)), .int .i64 (Bits.getE l : Int)] ∧ w' = w) := by
  obtain ⟨ad, c, rfl, hnil⟩ := ha.shape
  have hmx : l.length ≤ 9223372036854775807 := ha.nlt
  refine Rets.of (n := 22) (vs := [_]) Try.func16 rfl rfl rfl ?_
  refine TC.seq ?_
  refine TC.region ?_
  refine TL.assign rfl rfl ?_
  refine TL.assign rfl rfl ?_
  refine TL.done ?_
  refine Thn.go ?_
  refine TC.seq ?_
  refine TC.seq ?_
  refine TC.region ?_
  refine TL.move rfl rfl ?_
  refine TL.lenSlice Try.underlying22 rfl rfl ?_
  refine TL.neq rfl rfl rfl ?_
  refine TL.done ?_
  refine Thn.go ?_
  refine TC.condP rfl (fun h1 => ?_) (fun h1 => ?_)
  ·
    have h8 : ¬ l.length = 8 := by omega
    refine TC.seq ?_
    refine TC.region ?_
    refine TL.assign rfl rfl ?_
    refine TL.assign rfl rfl ?_
    refine TL.done ?_
    refine Thn.go ?_
    refine TC.ret ?_
    refine Thn.ret ?_
    refine Ends.ret [2, 3] rfl rfl ?_
    exact ⟨by unfold Bits.getN Bits.getE; rw [if_neg h8, if_neg h8]; rfl, rfl⟩
  ·
    have h8 : l.length = 8 := by omega
    obtain ⟨b, off, rfl, _⟩ := ha.byteAt (i := 0) (by omega)
    refine TC.skip ?_
    refine Thn.go ?_
    refine TC.seq ?_
    refine TC.region ?_
    refine TL.assign rfl rfl ?_
    refine TL.top (v' := u64 (UInt64.ofNat (Bits.le (l.drop 8)))) (by rw [List.drop_eq_nil_of_le (by omega)]; rfl) ?_
    refine TL.done ?_
    refine Thn.go ?_
    refine TC.seq ?_
    refine TC.seq ?_
    refine TC.region ?_
    refine TL.assign rfl rfl ?_
    refine TL.top (v' := .int .i64 (((8 : Nat) : Int) - 1)) rfl ?_
    refine TL.done ?_
    refine Thn.go ?_
    refine TC.block ?_
    refine TC.loop1 (fun (j : Nat) => [(0, .slice (some ⟨b, off, none⟩) l.length c), (4, u64 (UInt64.ofNat (Bits.le (l.drop j)))), (5, .int .i64 ((j : Int) - 1))]) (fun j w' => j ≤ 8 ∧ w' = w) (fun j => j) 8 (by repeat (first | exact trivial | refine ⟨rfl, ?_⟩)) (⟨by omega, rfl⟩) (fun j w' hH => ?_)
    obtain ⟨hj, rfl⟩ := hH
    refine TC.seq ?_
    refine TC.seq ?_
    refine TC.region ?_
    refine TL.move rfl rfl ?_
    refine TL.geq rfl rfl rfl ?_
    refine TL.done ?_
    refine Thn.go ?_
    refine TC.condP rfl (fun h2 => ?_) (fun h2 => ?_)
    ·
      obtain ⟨j, rfl⟩ : ∃ i, j = i + 1 := ⟨j - 1, by omega⟩
      obtain ⟨b', off', e, hcell⟩ := ha.byteAt (i := j) (by omega)
      cases e
      refine TC.skip ?_
      refine Thn.go ?_
      refine TC.seq ?_
      refine TC.block ?_
      refine TC.region ?_
      refine TL.move rfl rfl ?_
      refine TL.mul_u64 (b := 256) rfl rfl rfl ?_
      refine TL.move rfl rfl ?_
      refine TL.move rfl rfl ?_
      refine TL.indexAddr (j) sl22 rfl rfl (by first | rfl | omega) (by omega) rfl ?_
      refine TL.load pl5 rfl (hcell) rfl ?_
      refine TL.conv_u64 Try.underlying5 Try.underlying28 rfl rfl ?_
      refine TL.add_u64 rfl rfl rfl ?_
      refine TL.top (v' := u64 (UInt64.ofNat (Bits.le (l.drop j)))) (by rw [Bits.le_at (show j < l.length by omega)]; exact congrArg u64 (Bits.le_step _ _)) ?_
      refine TL.assign rfl rfl ?_
      refine TL.done ?_
      refine Blk.go ?_
      refine Thn.go ?_
      refine TC.region ?_
      refine TL.move rfl rfl ?_
      refine TL.sub_i64 rfl rfl (by omega) (by omega) rfl ?_
      refine TL.top (v' := .int .i64 ((j : Int) - 1)) (by congr 1; omega) ?_
      refine TL.assign rfl rfl ?_
      refine TL.done ?_
      refine Lp.go (j) (by repeat (first | exact trivial | refine ⟨rfl, ?_⟩)) ?_ (by first | omega | (dsimp only; omega))
      exact ⟨by omega, rfl⟩
    ·
      obtain rfl : j = 0 := by omega
      refine TC.exit ?_
      refine Thn.exit ?_
      refine Lp.exit ?_
      refine Blk.hit ?_
      refine Thn.go ?_
      refine TC.seq ?_
      refine TC.region ?_
      refine TL.move rfl rfl ?_
      refine TL.assign rfl rfl ?_
      refine TL.assign rfl rfl ?_
      refine TL.done ?_
      refine Thn.go ?_
      refine TC.ret ?_
      refine Ends.ret [2, 3] rfl rfl ?_
      exact ⟨by unfold Bits.getN Bits.getE; rw [if_pos h8, if_pos h8]; rfl, rfl⟩

theorem fn20 (n : UInt64) (w : World) : Rets Try.prog 20 #[u64 n] w (fun v w' => Own w' w.heap.size 5 1 v (Bits.put n).length ((Bits.put n).map u8) ∧ Ch [] w w') := by
  refine Rets.of (n := 18) (vs := [_]) Try.func20 rfl rfl rfl ?_
  refine TC.seq ?_
  refine TC.region ?_
  refine TL.assign rfl rfl ?_
  refine TL.done ?_
  refine Thn.go ?_
  refine TC.seq ?_
  refine TC.region ?_
  refine TL.assign rfl rfl ?_
  refine TL.done ?_
  refine Thn.go ?_
  refine TC.seq ?_
  refine TC.seq ?_
  refine TC.region ?_
  refine TL.assign rfl rfl ?_
  refine TL.done ?_
  refine Thn.go ?_
  refine TC.block ?_
  refine TC.loop3 (fun (x : UInt64) (v : Value) (k : Nat) => [(0, u64 x), (3, v), (4, .int .i64 (k : Int))]) (fun x v k w' => k ≤ 8 ∧ Own w' w.heap.size 5 1 v k (((List.range k).map (Bits.pb n)).map u8) ∧ x.toNat = n.toNat / 256 ^ k ∧ Ch [] w w') (fun _ _ k => 8 - k) n (.slice none 0 0) 0 (by repeat (first | exact trivial | refine ⟨rfl, ?_⟩)) (⟨by omega, World.ownsRow_nil _ _ _ _, by simp, Ch.refl _ _⟩) (fun x v k w' hH => ?_)
  obtain ⟨hk, hown, hx, hch⟩ := hH
  have hmx : maxLen = 9223372036854775807 := rfl
  have hsz := hch.size
  refine TC.seq ?_
  refine TC.seq ?_
  refine TC.region ?_
  refine TL.move rfl rfl ?_
  refine TL.lss rfl rfl rfl ?_
  refine TL.done ?_
  refine Thn.go ?_
  refine TC.condP rfl (fun h1 => ?_) (fun h1 => ?_)
  ·
    refine TC.skip ?_
    refine Thn.go ?_
    refine TC.seq ?_
    refine TC.block ?_
    refine TC.seq ?_
    refine TC.region ?_
    refine TL.move rfl rfl ?_
    refine TL.move rfl rfl ?_
    refine TL.rem_u64 (b := 256) rfl rfl (by decide) rfl ?_
    refine TL.conv_u8 Try.underlying28 Try.underlying5 rfl rfl ?_
    refine TL.top (v' := u8 (Bits.pb n k)) (by rw [Bits.pb_rem hx]) ?_
    refine TL.buildSlice [.tmp 12] sl22 rfl rfl rfl (by decide) (by simp [Value.cells]) rfl (fun w13 hb13 hc13 hz13 => ?_)
    refine TL.append sl22 rfl rfl rfl (hown.ch0 hc13) (News.ofRd Try.underlying22 (Rd.byte _ hb13) (one_byte _)) (by omega) (by omega) (by omega) (fun v14 w14 hv14 hc14 _ => ?_)
    refine TL.assign rfl rfl ?_
    refine TL.done ?_
    refine Thn.go ?_
    refine TC.region ?_
    refine TL.move rfl rfl ?_
    refine TL.quo_u64 (b := 256) rfl rfl (by decide) rfl ?_
    refine TL.assign rfl rfl ?_
    refine TL.done ?_
    refine Blk.go ?_
    refine Thn.go ?_
    refine TC.region ?_
    refine TL.move rfl rfl ?_
    refine TL.add_i64 rfl rfl (by omega) (by omega) rfl ?_
    refine TL.assign rfl rfl ?_
    refine TL.done ?_
    refine Lp.go ((x / 256, v14, k + 1)) (by repeat (first | exact trivial | refine ⟨rfl, ?_⟩)) (?_) (by show 8 - (k + 1) < 8 - k; omega)
    have hs := hc13.size
    exact ⟨by show k + 1 ≤ 8; omega, by rw [List.range_succ, List.map_append, List.map_append]; exact hv14, by show (x / 256).toNat = _; rw [UInt64.toNat_div, hx, Nat.pow_succ, ← Nat.div_div_eq_div_mul]; rfl, (hown.ch0 hc13).thenCh (hch.trans0 hc13) hc14⟩
  ·
    have hk8 : k = 8 := by omega
    subst hk8
    refine TC.exit ?_
    refine Thn.exit ?_
    refine Lp.exit ?_
    refine Blk.hit ?_
    refine Thn.go ?_
    refine TC.seq ?_
    refine TC.region ?_
    refine TL.move rfl rfl ?_
    refine TL.assign rfl rfl ?_
    refine TL.done ?_
    refine Thn.go ?_
    refine TC.ret ?_
    refine Ends.ret [2] rfl rfl ?_
    exact ⟨by rw [Bits.put_len]; exact hown, hch⟩

theorem fn21 (n : UInt64) (w : World) : Rets Try.prog 21 #[u64 n] w (fun v w' => Own w' w.heap.size 5 1 v (Bits.small n.toNat).length ((Bits.small n.toNat).map u8) ∧ Ch [] w w') := by
  have hten := Bits.small_len64 n
  refine Rets.of (n := 20) (vs := [_]) Try.func21 rfl rfl rfl ?_
  refine TC.seq ?_
  refine TC.region ?_
  refine TL.assign rfl rfl ?_
  refine TL.done ?_
  refine Thn.go ?_
  refine TC.seq ?_
  refine TC.region ?_
  refine TL.assign rfl rfl ?_
  refine TL.done ?_
  refine Thn.go ?_
  refine TC.seq ?_
  refine TC.block ?_
  refine TC.loop3 (fun (x : UInt64) (v : Value) (_ : List UInt8) => [(0, u64 x), (3, v)]) (fun x v l w' => Own w' w.heap.size 5 1 v l.length (l.map u8) ∧ l ++ Bits.small x.toNat = Bits.small n.toNat ∧ Ch [] w w') (fun x _ _ => x.toNat) n (.slice none 0 0) [] (by repeat (first | exact trivial | refine ⟨rfl, ?_⟩)) (⟨World.ownsRow_nil _ _ _ _, rfl, Ch.refl _ _⟩) (fun x v l w' hH => ?_)
  obtain ⟨hown, hpre, hch⟩ := hH
  have hlen : l.length + (Bits.small x.toNat).length ≤ 10 := by rw [← List.length_append, hpre]; exact hten
  have hmx : maxLen = 9223372036854775807 := rfl
  have hsz := hch.size
  have hq : (x / 128).toNat = x.toNat / 128 := by rw [UInt64.toNat_div]; rfl
  refine TC.seq ?_
  refine TC.seq ?_
  refine TC.region ?_
  refine TL.move rfl rfl ?_
  refine TL.geq rfl rfl rfl ?_
  refine TL.done ?_
  refine Thn.go ?_
  refine TC.condP rfl (fun h1 => ?_) (fun h1 => ?_)
  ·
    have hsm := Bits.small_ge (n := x.toNat) (by omega)
    refine TC.skip ?_
    refine Thn.go ?_
    refine TC.block ?_
    refine TC.seq ?_
    refine TC.region ?_
    refine TL.move rfl rfl ?_
    refine TL.move rfl rfl ?_
    refine TL.rem_u64 (b := 128) rfl rfl (by decide) rfl ?_
    refine TL.conv_u8 Try.underlying28 Try.underlying5 rfl rfl ?_
    refine TL.add_u8 (b := 128) rfl rfl rfl ?_
    refine TL.top (v' := u8 (UInt8.ofNat (x.toNat % 128 + 128))) (by rw [Bits.small_rem]) ?_
    refine TL.buildSlice [.tmp 10] sl22 rfl rfl rfl (by decide) (by simp [Value.cells]) rfl (fun w11 hb11 hc11 hz11 => ?_)
    refine TL.append sl22 rfl rfl rfl (hown.ch0 hc11) (News.ofRd Try.underlying22 (Rd.byte _ hb11) (one_byte _)) (by omega) (by omega) (by omega) (fun v12 w12 hv12 hc12 _ => ?_)
    refine TL.assign rfl rfl ?_
    refine TL.done ?_
    refine Thn.go ?_
    refine TC.region ?_
    refine TL.move rfl rfl ?_
    refine TL.quo_u64 (b := 128) rfl rfl (by decide) rfl ?_
    refine TL.assign rfl rfl ?_
    refine TL.done ?_
    refine Blk.go ?_
    refine Lp.go ((x / 128, v12, l ++ [UInt8.ofNat (x.toNat % 128 + 128)])) (by repeat (first | exact trivial | refine ⟨rfl, ?_⟩)) (?_) (by show (x / 128).toNat < x.toNat; rw [hq]; omega)
    have hs := hc11.size
    exact ⟨by rw [List.length_append, List.map_append]; exact hv12, by show (l ++ _) ++ Bits.small (x / 128).toNat = _; rw [hq, ← hpre, hsm, List.append_assoc]; rfl, (hown.ch0 hc11).thenCh (hch.trans0 hc11) hc12⟩
  ·
    have hsm := Bits.small_lt (n := x.toNat) (by omega)
    refine TC.exit ?_
    refine Thn.exit ?_
    refine Lp.exit ?_
    refine Blk.hit ?_
    refine Thn.go ?_
    refine TC.seq ?_
    refine TC.region ?_
    refine TL.move rfl rfl ?_
    refine TL.move rfl rfl ?_
    refine TL.conv_u8 Try.underlying28 Try.underlying5 rfl rfl ?_
    refine TL.buildSlice [.tmp 17] sl22 rfl rfl rfl (by decide) (by simp [Value.cells]) rfl (fun w18 hb18 hc18 hz18 => ?_)
    refine TL.append sl22 rfl rfl rfl (hown.ch0 hc18) (News.ofRd Try.underlying22 (Rd.byte _ hb18) (one_byte _)) (by omega) (by omega) (by omega) (fun v19 w19 hv19 hc19 _ => ?_)
    refine TL.assign rfl rfl ?_
    refine TL.done ?_
    refine Thn.go ?_
    refine TC.ret ?_
    refine Ends.ret [2] rfl rfl ?_
    exact ⟨by rw [← hpre, hsm, List.length_append, List.map_append]; exact hv19, (hown.ch0 hc18).thenCh (hch.trans0 hc18) hc19⟩

