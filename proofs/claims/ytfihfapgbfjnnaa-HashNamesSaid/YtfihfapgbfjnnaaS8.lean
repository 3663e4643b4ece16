/-
  Walks through the given program: each theorem fnN says what the call of function N of the translation hands back, for all arguments that its premises describe, and that nothing that was there has turned.
-/
import Derived.Test.YtfihfapgbfjnnaaS7
import Derived.Test.YtfihfapgbfjnnaaH2
import Derived.Test.YtfihfapgbfjnnaaPass
namespace Go.Proofs.Ytfihfapgbfjnnaa
open Go.Lane
theorem can19 : Callable Try.prog 19 := ⟨Try.f19, Try.func19, by kernel_rfl, rfl⟩
theorem can20 : Callable Try.prog 20 := ⟨Try.f20, Try.func20, by kernel_rfl, rfl⟩
theorem can21 : Callable Try.prog 21 := ⟨Try.f21, Try.func21, by kernel_rfl, rfl⟩

theorem fn19 (w : World) : Rets Try.prog 19 #[] w (fun v w' => v = .bool true ∧ Ch [] w w') := by
  have hsl := Sha.sum_len [97, 98, 99]
  refine Rets.of (n := 8) (vs := []) Try.func19 rfl rfl rfl ?_
  refine TC.seq ?_
  refine TC.region ?_
  refine TL.assign rfl rfl ?_
  refine TL.done ?_
  refine Thn.go ?_
  refine TC.seq ?_
  refine TC.region ?_
  refine TL.buildSlice (vs := [97, 98, 99].map u8) [.const (Value.int IntKind.u8 97), .const (Value.int IntKind.u8 98), .const (Value.int IntKind.u8 99)] sl22 rfl rfl rfl (by decide) (by simp [Value.cells]) rfl (fun w2 hb2 hc2 hz2 => ?_)
  refine TL.markBytes Try.underlying22 Try.underlying5 rfl (hb2) rfl (fun w3 hb3 hc3 hz3 => ?_)
  have q3 : Ch [] w w3 := hc2.then1 hc3 (Nat.le_refl _)
  refine TL.call can13 rfl rfl (fn13 _ [97, 98, 99] (by decide) w3 (Rd.ofBytes [97, 98, 99] hb3 (by decide))) (fun v4 w4 hr4 => ?_)
  obtain ⟨rfl, hc4⟩ := hr4
  refine TL.alloc ze30 rfl (fun w1 hb1 hc1 hz1 => ?_)
  refine TL.store sz30 rfl rfl (by simpa [Value.cells] using hsl) hb1 (by simp [Value.cells]) (by simpa [Value.cells] using one_u8 (Sha.sum [97, 98, 99])) (.inl rfl) (fun ws1 hbs1 hcs1 hzs1 => ?_)
  replace hbs1 : Has ws1 w4.heap.size ((Sha.sum [97, 98, 99]).map u8).toArray 30 (0, 0) := hbs1.setAll (by simp [Value.cells, hsl])
  have z4 := hc4.size
  have q1 : Ch [] w ws1 := (((q3.trans0 hc4).trans0 hc1)).then1 hcs1 (by have := q3.size; omega)
  refine TL.done ?_
  refine Thn.go ?_
  refine TC.seq ?_
  refine TC.region ?_
  refine TL.sliceArr ar30 rfl rfl ?_
  refine TL.call can11 rfl rfl (fn11 _ (Sha.sum [97, 98, 99]) ws1 (Rd.bytes _ (Rd.ofRow (m := 32) hbs1 (by simp [hsl]) (by decide)) hsl.symm rfl) (by omega)) (fun v6 w6 hr6 => ?_)
  obtain ⟨rfl, hc6⟩ := hr6
  refine TL.eqlStr rfl rfl rfl ?_
  refine TL.yes (Sha.abc) ?_
  refine TL.assign rfl rfl ?_
  refine TL.done ?_
  refine Thn.go ?_
  refine TC.ret ?_
  refine Ends.ret [0] rfl rfl ?_
  exact ⟨rfl, q1.trans0 hc6⟩

theorem fn5 (a : Value) (l : List UInt8) (s : List UInt8) (w : World) (ha : Rd w a 1 l.length (l.map u8)) : Rets Try.prog 5 #[a, str s] w (fun v w' => v = .bool true ∧ Ch [] w w') := by
  obtain ⟨ad, c, rfl, _⟩ := ha.shape
  refine Rets.of (n := 60) (vs := [_, _]) Try.func5 rfl rfl rfl ?_
  refine TC.seq ?_
  refine TC.region ?_
  refine TL.assign rfl rfl ?_
  refine TL.done ?_
  refine Thn.go ?_
  refine TC.seq ?_
  refine TC.region ?_
  refine TL.call can19 rfl rfl (fn19 w) (fun v9 w9 hr9 => ?_)
  obtain ⟨rfl, hc9⟩ := hr9
  refine TL.assign rfl rfl ?_
  refine TL.done ?_
  refine Thn.go ?_
  refine TC.seq ?_
  refine TC.regionBool (d := 21) (p := (5000 < l.length ∨ 5000 < s.length)) (fun K1 hK1 => ?_) ?_
  ·
    refine TL.move rfl rfl ?_
    refine TL.lenSlice Try.underlying22 rfl rfl ?_
    refine TL.gtr rfl rfl rfl ?_
    refine TL.em (fun e12 => ?_) (fun e12 => ?_)
    ·
      refine TL.move rfl rfl ?_
      refine TL.guardNo (d := 13) rfl rfl rfl rfl rfl ?_
      refine TL.guardNo (d := 13) rfl rfl rfl rfl rfl ?_
      refine TL.guardNo (d := 13) rfl rfl rfl rfl rfl ?_
      refine TL.pickT rfl rfl rfl rfl ?_
      refine TL.move rfl rfl ?_
      refine TL.guardNo (d := 18) rfl rfl rfl rfl rfl ?_
      refine TL.guardNo (d := 18) rfl rfl rfl rfl rfl ?_
      refine TL.pickT rfl rfl rfl rfl ?_
      refine TL.done ?_
      refine hK1 _ ?_
      refine Le.here rfl (by first | exact decide_eq_true (by omega) | exact decide_eq_false (by omega) | exact decide_eq_decide.2 (by omega)) ?_
      repeat (first | exact Le.refl _ | refine Le.skip rfl ?_)
    ·
      refine TL.move rfl rfl ?_
      refine TL.guardYes (d := 13) rfl rfl rfl ?_
      refine TL.move rfl rfl ?_
      refine TL.guardYes (d := 13) rfl rfl rfl ?_
      refine TL.lenStr Try.underlying9 rfl rfl ?_
      refine TL.guardYes (d := 13) rfl rfl rfl ?_
      refine TL.gtr rfl rfl rfl ?_
      refine TL.em (fun e16 => ?_) (fun e16 => ?_)
      ·
        refine TL.pickF rfl rfl rfl rfl ?_
        refine TL.move rfl rfl ?_
        refine TL.guardNo (d := 18) rfl rfl rfl rfl rfl ?_
        refine TL.guardNo (d := 18) rfl rfl rfl rfl rfl ?_
        refine TL.pickT rfl rfl rfl rfl ?_
        refine TL.done ?_
        refine hK1 _ ?_
        refine Le.here rfl (by first | exact decide_eq_true (by omega) | exact decide_eq_false (by omega) | exact decide_eq_decide.2 (by omega)) ?_
        repeat (first | exact Le.refl _ | refine Le.skip rfl ?_)
      ·
        refine TL.pickF rfl rfl rfl rfl ?_
        refine TL.move rfl rfl ?_
        refine TL.guardYes (d := 18) rfl rfl rfl ?_
        refine TL.move rfl rfl ?_
        refine TL.guardYes (d := 18) rfl rfl rfl ?_
        refine TL.not rfl rfl ?_
        refine TL.pickF rfl rfl rfl rfl ?_
        refine TL.done ?_
        refine hK1 _ ?_
        refine Le.here rfl (by first | exact decide_eq_true (by omega) | exact decide_eq_false (by omega) | exact decide_eq_decide.2 (by omega)) ?_
        repeat (first | exact Le.refl _ | refine Le.skip rfl ?_)
  refine TC.condP rfl (fun h4 => ?_) (fun h4 => ?_)
  ·
    refine TC.seq ?_
    refine TC.region ?_
    refine TL.move rfl rfl ?_
    refine TL.assign rfl rfl ?_
    refine TL.done ?_
    refine Thn.go ?_
    refine TC.ret ?_
    refine Thn.ret ?_
    refine Ends.ret [4] rfl rfl ?_
    exact ⟨rfl, hc9⟩
  ·
    refine TC.skip ?_
    refine Thn.go ?_
    refine TC.seq ?_
    refine TC.region ?_
    refine TL.move rfl rfl ?_
    refine TL.call can11 rfl rfl (fn11 _ l w9 (ha.ch0 hc9) (by omega)) (fun v25 w25 hr25 => ?_)
    obtain ⟨rfl, hc25⟩ := hr25
    refine TL.call can9 rfl rfl (fn9 (Hex.hexL l) (by rw [Hex.hexL_len]; omega) w25) (fun v26 w26 hr26 => ?_)
    obtain ⟨r26, rfl, hv26, hc26⟩ := hr26
    obtain ⟨hE, hL⟩ := Sha.unE_hex l
    rw [hE]
    rw [hL] at hv26
    have q26 := (hc9.trans0 hc25).trans0 hc26
    refine TL.move rfl rfl ?_
    refine TL.extract rfl rfl rfl ?_
    refine TL.extract rfl rfl rfl ?_
    refine TL.assign rfl rfl ?_
    refine TL.assign rfl rfl ?_
    refine TL.done ?_
    refine Thn.go ?_
    refine TC.seq ?_
    refine TC.seq ?_
    refine TC.region ?_
    refine TL.move rfl rfl ?_
    refine TL.neq rfl rfl rfl ?_
    refine TL.no (by simp) ?_
    refine TL.move rfl rfl ?_
    refine TL.guardYes (d := 31) rfl rfl rfl ?_
    refine TL.move rfl rfl ?_
    refine TL.guardYes (d := 31) rfl rfl rfl ?_
    refine TL.bytesToStr Try.underlying22 Try.underlying5 Try.underlying9 rfl (Rd.ofOwn hv26) rfl ?_
    refine TL.guardYes (d := 31) rfl rfl rfl ?_
    refine TL.move rfl rfl ?_
    refine TL.guardYes (d := 31) rfl rfl rfl ?_
    refine TL.bytesToStr Try.underlying22 Try.underlying5 Try.underlying9 rfl (ha.ch0 q26) rfl ?_
    refine TL.guardYes (d := 31) rfl rfl rfl ?_
    refine TL.neqStr rfl rfl rfl ?_
    refine TL.no (by simp) ?_
    refine TL.pickF rfl rfl rfl rfl ?_
    refine TL.done ?_
    refine Thn.go ?_
    refine TC.condF rfl rfl ?_
    refine TC.skip ?_
    refine Thn.go ?_
    refine TC.seq ?_
    refine TC.region ?_
    refine TL.move rfl rfl ?_
    refine TL.call can9 rfl rfl (fn9 s (by omega) w26) (fun v40 w40 hr40 => ?_)
    obtain ⟨r40, rfl, hv40, hc40⟩ := hr40
    obtain ⟨a40, c40, rfl⟩ := hv40.shape
    refine TL.move rfl rfl ?_
    refine TL.extract rfl rfl rfl ?_
    refine TL.extract rfl rfl rfl ?_
    refine TL.assign rfl rfl ?_
    refine TL.assign rfl rfl ?_
    refine TL.done ?_
    refine Thn.go ?_
    refine TC.cut0 ([(4, .bool true)]) (fun w' => Ch [] w w') (fun K6 hK6 => ?_) (fun w' hH => ?_)
    ·
      refine TC.region ?_
      refine TL.move rfl rfl ?_
      refine TL.neq rfl rfl rfl ?_
      refine TL.em (fun e44 => ?_) (fun e44 => ?_)
      ·
        have hng : ¬ Hex.good s := fun hg => e44 (by rw [(Sha.unE_good hg).1]; rfl)
        refine TL.move rfl rfl ?_
        refine TL.guardYes (d := 45) rfl rfl rfl ?_
        refine TL.move rfl rfl ?_
        refine TL.guardYes (d := 45) rfl rfl rfl ?_
        refine TL.lenSlice Try.underlying22 rfl rfl ?_
        refine TL.guardYes (d := 45) rfl rfl rfl ?_
        refine TL.eql rfl rfl rfl ?_
        refine TL.yes (by rw [(Sha.unE_bad hng).2]; rfl) ?_
        refine TL.pickT rfl rfl rfl rfl ?_
        refine TL.move rfl rfl ?_
        refine TL.guardNo (d := 50) rfl rfl rfl rfl rfl ?_
        refine TL.guardNo (d := 50) rfl rfl rfl rfl rfl ?_
        refine TL.guardNo (d := 50) rfl rfl rfl rfl rfl ?_
        refine TL.guardUndef (d := 53) rfl rfl rfl rfl ?_
        refine TL.guardUndef (d := 53) rfl rfl rfl rfl ?_
        refine TL.guardUndef (d := 53) rfl rfl rfl rfl ?_
        refine TL.guardUndef (d := 53) rfl rfl rfl rfl ?_
        refine TL.guardNo (d := 50) rfl rfl rfl rfl rfl ?_
        refine TL.pickT rfl rfl rfl rfl ?_
        refine TL.assign rfl rfl ?_
        refine TL.done ?_
        exact hK6  _ _ (by repeat (first | exact trivial | refine ⟨rfl, ?_⟩)) (q26.trans0 hc40)
      ·
        have hg : Hex.good s := by
          by_cases hg : Hex.good s
          · exact hg
          · rw [(Sha.unE_bad hg).1] at e44; exact absurd (by decide) e44
        refine TL.move rfl rfl ?_
        refine TL.guardNo (d := 45) rfl rfl rfl rfl rfl ?_
        refine TL.guardNo (d := 45) rfl rfl rfl rfl rfl ?_
        refine TL.guardNo (d := 45) rfl rfl rfl rfl rfl ?_
        refine TL.pickF rfl rfl rfl rfl ?_
        refine TL.move rfl rfl ?_
        refine TL.guardYes (d := 50) rfl rfl rfl ?_
        refine TL.move rfl rfl ?_
        refine TL.guardYes (d := 50) rfl rfl rfl ?_
        refine TL.eql rfl rfl rfl ?_
        refine TL.yes (by rw [(Sha.unE_good hg).1]; rfl) ?_
        refine TL.guardYes (d := 50) rfl rfl rfl ?_
        refine TL.move rfl rfl ?_
        refine TL.guardYes (d := 53) rfl rfl rfl ?_
        refine TL.move rfl rfl ?_
        refine TL.guardYes (d := 53) rfl rfl rfl ?_
        refine TL.call can11 rfl rfl (fn11 _ (Hex.unL s) w40 (Rd.ofOwn hv40) (by rw [(Sha.unE_good hg).2, Hex.unV_len]; omega)) (fun v55 w55 hr55 => ?_)
        obtain ⟨rfl, hc55⟩ := hr55
        refine TL.guardYes (d := 53) rfl rfl rfl ?_
        refine TL.move rfl rfl ?_
        refine TL.guardYes (d := 53) rfl rfl rfl ?_
        refine TL.eqlStr rfl rfl rfl ?_
        refine TL.yes (by rw [(Sha.unE_good hg).2, Hex.hexL_unV hg]) ?_
        refine TL.guardYes (d := 50) rfl rfl rfl ?_
        refine TL.pickT rfl rfl rfl rfl ?_
        refine TL.pickF rfl rfl rfl rfl ?_
        refine TL.assign rfl rfl ?_
        refine TL.done ?_
        exact hK6  _ _ (by repeat (first | exact trivial | refine ⟨rfl, ?_⟩)) ((q26.trans0 hc40).trans0 hc55)
    ·
      refine TC.ret ?_
      refine Ends.ret [4] rfl rfl ?_
      exact ⟨rfl, hH⟩

theorem fn20 (s p : List UInt8) (t : Int) (w : World) : Rets Try.prog 20 #[str s, str p, .int .i64 t] w (fun v w' => v = .tuple #[str (Sha.passS s p t), .int .i64 (Sha.passE s p t : Int)] ∧ Ch [] w w') := by
  have hmm : maxLen = 9223372036854775807 := rfl
  refine Rets.of (n := 35) (vs := [_, _, _]) Try.func20 rfl rfl rfl ?_
  refine TC.seq ?_
  refine TC.region ?_
  refine TL.assign rfl rfl ?_
  refine TL.assign rfl rfl ?_
  refine TL.done ?_
  refine Thn.go ?_
  refine TC.seq ?_
  refine TC.block ?_
  refine TC.cut1 (fun (b : Bool) => [(0, str s), (1, str p), (2, .int .i64 t), (10, .bool b)]) (fun b w' => (b = true ↔ (16384 < s.length ∨ 16384 < p.length)) ∧ w' = w) (fun K1 hK1 => ?_) (fun b w' hH => ?_)
  ·
    refine TC.seq ?_
    refine TC.region ?_
    refine TL.move rfl rfl ?_
    refine TL.lenStr Try.underlying9 rfl rfl ?_
    refine TL.gtr rfl rfl rfl ?_
    refine TL.assign rfl rfl ?_
    refine TL.done ?_
    refine Thn.go ?_
    refine TC.condP rfl (fun h2 => ?_) (fun h2 => ?_)
    ·
      refine TC.skip ?_
      exact hK1 (decide (16384 < (s.length : Int))) _ _ (by repeat (first | exact trivial | refine ⟨rfl, ?_⟩)) (⟨by rw [decide_eq_true_iff]; omega, rfl⟩)
    ·
      refine TC.region ?_
      refine TL.move rfl rfl ?_
      refine TL.lenStr Try.underlying9 rfl rfl ?_
      refine TL.gtr rfl rfl rfl ?_
      refine TL.assign rfl rfl ?_
      refine TL.done ?_
      exact hK1 (decide (16384 < (p.length : Int))) _ _ (by repeat (first | exact trivial | refine ⟨rfl, ?_⟩)) (⟨by rw [decide_eq_true_iff]; omega, rfl⟩)
  ·
    obtain ⟨hb, rfl⟩ := hH
    refine TC.cond rfl (fun h3 => ?_) (fun h3 => ?_)
    ·
      obtain ⟨h1, h2⟩ := Sha.pass_long (t := t) (hb.1 h3)
      refine TC.seq ?_
      refine TC.region ?_
      refine TL.assign rfl rfl ?_
      refine TL.assign rfl rfl ?_
      refine TL.done ?_
      refine Thn.go ?_
      refine TC.ret ?_
      refine Blk.ret ?_
      refine Thn.ret ?_
      refine Ends.ret [6, 7] rfl rfl ?_
      exact ⟨by rw [h1, h2]; rfl, Ch.refl _ _⟩
    ·
      have hlong : ¬ (16384 < s.length ∨ 16384 < p.length) := fun h => by rw [hb.2 h] at h3; cases h3
      refine TC.cut1 (fun (b : Bool) => [(0, str s), (1, str p), (2, .int .i64 t), (17, .bool b)]) (fun b w2 => (b = true ↔ (t < 1 ∨ 64 < t)) ∧ w2 = w') (fun K4 hK4 => ?_) (fun b w2 hH => ?_)
      ·
        refine TC.seq ?_
        refine TC.region ?_
        refine TL.move rfl rfl ?_
        refine TL.lss rfl rfl rfl ?_
        refine TL.assign rfl rfl ?_
        refine TL.done ?_
        refine Thn.go ?_
        refine TC.condP rfl (fun h5 => ?_) (fun h5 => ?_)
        ·
          refine TC.skip ?_
          exact hK4 (decide (t < 1)) _ _ (by repeat (first | exact trivial | refine ⟨rfl, ?_⟩)) (⟨by rw [decide_eq_true_iff]; omega, rfl⟩)
        ·
          refine TC.region ?_
          refine TL.move rfl rfl ?_
          refine TL.gtr rfl rfl rfl ?_
          refine TL.assign rfl rfl ?_
          refine TL.done ?_
          exact hK4 (decide (t > 64)) _ _ (by repeat (first | exact trivial | refine ⟨rfl, ?_⟩)) (⟨by rw [decide_eq_true_iff]; omega, rfl⟩)
      ·
        obtain ⟨hb2, rfl⟩ := hH
        refine TC.cond rfl (fun h6 => ?_) (fun h6 => ?_)
        ·
          obtain ⟨h1, h2⟩ := Sha.pass_arg (t := t) hlong (hb2.1 h6)
          refine TC.seq ?_
          refine TC.region ?_
          refine TL.assign rfl rfl ?_
          refine TL.assign rfl rfl ?_
          refine TL.done ?_
          refine Thn.go ?_
          refine TC.ret ?_
          refine Blk.ret ?_
          refine Thn.ret ?_
          refine Ends.ret [6, 7] rfl rfl ?_
          exact ⟨by rw [h1, h2]; rfl, Ch.refl _ _⟩
        ·
          have harg : ¬ (t < 1 ∨ 64 < t) := fun h => by rw [hb2.2 h] at h6; cases h6
          obtain ⟨h1, h2⟩ := Sha.pass_ok hlong harg
          rw [h1, h2]
          refine TC.skip ?_
          refine Blk.go ?_
          refine Thn.go ?_
          refine TC.seq ?_
          refine TC.region ?_
          refine TL.move rfl rfl ?_
          refine TL.strRd Try.underlying9 Try.underlying22 Try.underlying5 rfl (by omega) rfl (fun w23 v23 hv23 hs23 _ hc23 hzz23 => ?_)
          refine TL.assign rfl rfl ?_
          refine TL.done ?_
          refine Thn.go ?_
          refine TC.seq ?_
          refine TC.seq ?_
          refine TC.region ?_
          refine TL.move rfl rfl ?_
          refine TL.move rfl rfl ?_
          refine TL.done ?_
          refine Thn.go ?_
          refine TC.block ?_
          refine TC.loop2 (fun (i : Nat) (v : Value) => [(0, str s), (8, v), (24, .int .i64 t), (25, .int .i64 (i : Int))]) (fun i v w3 => (i : Int) ≤ t ∧ Rd w3 v 1 (Sha.chain s p i).length ((Sha.chain s p i).map u8) ∧ Ch [] w2 w3) (fun i _ => t.toNat - i) 0 v23 (by repeat (first | exact trivial | refine ⟨rfl, ?_⟩)) (⟨by omega, hv23, hc23⟩) (fun i v w3 hH => ?_)
          obtain ⟨hi, hR, hch⟩ := hH
          have hcl := Sha.chain_len s p i (by omega)
          refine TC.seq ?_
          refine TC.region ?_
          refine TL.lss rfl rfl rfl ?_
          refine TL.done ?_
          refine Thn.go ?_
          refine TC.seq ?_
          refine TC.condP rfl (fun h8 => ?_) (fun h8 => ?_)
          ·
            obtain ⟨av, cv, rfl, _⟩ := hR.shape
            refine TC.skip ?_
            refine Thn.go ?_
            refine TC.seq ?_
            refine TC.block ?_
            refine TC.seq ?_
            refine TC.region ?_
            refine TL.move rfl rfl ?_
            refine TL.strRd Try.underlying9 Try.underlying22 Try.underlying5 rfl (by omega) rfl (fun w28 v28 hv28 hs28 _ hc28 hzz28 => ?_)
            refine TL.move rfl rfl ?_
            refine TL.call can15 rfl rfl (fn15 _ _ s (Sha.chain s p i) (by omega) (by omega) w28 hv28 (hR.ch0 hc28)) (fun v30 w30 hr30 => ?_)
            obtain ⟨rfl, hc30⟩ := hr30
            have hsl := Sha.hmac_len s (Sha.chain s p i)
            refine TL.alloc ze30 rfl (fun w9 hb9 hc9 hz9 => ?_)
            refine TL.store sz30 rfl rfl (by simpa [Value.cells] using hsl) hb9 (by simp [Value.cells]) (by simpa [Value.cells] using one_u8 (Sha.hmac s (Sha.chain s p i))) (.inl rfl) (fun ws1 hbs1 hcs1 hzs1 => ?_)
            replace hbs1 : Has ws1 w30.heap.size ((Sha.hmac s (Sha.chain s p i)).map u8).toArray 30 (0, 0) := hbs1.setAll (by simp [Value.cells, hsl])
            refine TL.done ?_
            refine Thn.go ?_
            refine TC.region ?_
            refine TL.sliceArr ar30 rfl rfl ?_
            refine TL.assign rfl rfl ?_
            refine TL.done ?_
            refine Blk.go ?_
            refine Thn.go ?_
            refine TC.region ?_
            refine TL.add_i64 rfl rfl (by omega) (by omega) rfl ?_
            refine TL.move rfl rfl ?_
            refine TL.done ?_
            refine Lp.go ((i + 1, .slice (some ⟨w30.heap.size, 0, none⟩) 32 32)) (by repeat (first | exact trivial | refine ⟨rfl, ?_⟩)) (?_) (by show t.toNat - (i + 1) < t.toNat - i; omega)
            refine ⟨by show ((i + 1 : Nat) : Int) ≤ t; omega, Rd.bytes (Sha.chain s p (i + 1)) (Rd.ofRow (m := 32) hbs1 (by simp [hsl]) (by decide)) (by rw [Sha.chain, hsl]) rfl, ?_⟩
            exact (((hch.trans0 hc28).trans0 hc30).trans0 hc9).then1 hcs1 (by have := hch.size; have := hc28.size; have := hc30.size; omega)
          ·
            have hit : t.toNat = i := by omega
            obtain ⟨av, cv, rfl, _⟩ := hR.shape
            refine TC.exit ?_
            refine Thn.exit ?_
            refine Lp.exit ?_
            refine Blk.hit ?_
            refine Thn.go ?_
            refine TC.seq ?_
            refine TC.region ?_
            refine TL.move rfl rfl ?_
            refine TL.call can11 rfl rfl (fn11 _ (Sha.chain s p i) w3 hR (by omega)) (fun v34 w34 hr34 => ?_)
            obtain ⟨rfl, hc34⟩ := hr34
            refine TL.assign rfl rfl ?_
            refine TL.assign rfl rfl ?_
            refine TL.done ?_
            refine Thn.go ?_
            refine TC.ret ?_
            refine Ends.ret [6, 7] rfl rfl ?_
            exact ⟨by rw [hit]; rfl, hch.trans0 hc34⟩

theorem fn21 (s p : List UInt8) (t : Int) (w : World) : Rets Try.prog 21 #[str s, str p, .int .i64 t] w (fun v w' => v = .tuple #[str (Sha.passS s p t), .int .i64 (Sha.passE s p t : Int)] ∧ Ch [] w w') := by
  have hmm : maxLen = 9223372036854775807 := rfl
  refine Rets.of (n := 49) (vs := [_, _, _]) Try.func21 rfl rfl rfl ?_
  refine TC.seq ?_
  refine TC.region ?_
  refine TL.assign rfl rfl ?_
  refine TL.assign rfl rfl ?_
  refine TL.done ?_
  refine Thn.go ?_
  refine TC.seq ?_
  refine TC.regionBool (d := 19) (p := (16384 < s.length ∨ 16384 < p.length)) (fun K1 hK1 => ?_) ?_
  ·
    refine TL.move rfl rfl ?_
    refine TL.lenStr Try.underlying9 rfl rfl ?_
    refine TL.gtr rfl rfl rfl ?_
    refine TL.em (fun e14 => ?_) (fun e14 => ?_)
    ·
      refine TL.move rfl rfl ?_
      refine TL.guardNo (d := 15) rfl rfl rfl rfl rfl ?_
      refine TL.guardNo (d := 15) rfl rfl rfl rfl rfl ?_
      refine TL.guardNo (d := 15) rfl rfl rfl rfl rfl ?_
      refine TL.pickT rfl rfl rfl rfl ?_
      refine TL.done ?_
      refine hK1 _ ?_
      refine Le.here rfl (by first | exact decide_eq_true (by omega) | exact decide_eq_false (by omega) | exact decide_eq_decide.2 (by omega)) ?_
      repeat (first | exact Le.refl _ | refine Le.skip rfl ?_)
    ·
      refine TL.move rfl rfl ?_
      refine TL.guardYes (d := 15) rfl rfl rfl ?_
      refine TL.move rfl rfl ?_
      refine TL.guardYes (d := 15) rfl rfl rfl ?_
      refine TL.lenStr Try.underlying9 rfl rfl ?_
      refine TL.guardYes (d := 15) rfl rfl rfl ?_
      refine TL.gtr rfl rfl rfl ?_
      refine TL.pickF rfl rfl rfl rfl ?_
      refine TL.done ?_
      refine hK1 _ ?_
      refine Le.here rfl (by first | exact decide_eq_true (by omega) | exact decide_eq_false (by omega) | exact decide_eq_decide.2 (by omega)) ?_
      repeat (first | exact Le.refl _ | refine Le.skip rfl ?_)
  refine TC.condP rfl (fun h3 => ?_) (fun h3 => ?_)
  ·
    obtain ⟨h1, h2⟩ := Sha.pass_long (t := t) h3
    refine TC.seq ?_
    refine TC.region ?_
    refine TL.assign rfl rfl ?_
    refine TL.assign rfl rfl ?_
    refine TL.done ?_
    refine Thn.go ?_
    refine TC.ret ?_
    refine Thn.ret ?_
    refine Ends.ret [6, 7] rfl rfl ?_
    exact ⟨by rw [h1, h2]; rfl, Ch.refl _ _⟩
  ·
    refine TC.skip ?_
    refine Thn.go ?_
    refine TC.seq ?_
    refine TC.regionBool (d := 25) (p := (t < 1 ∨ 64 < t)) (fun K4 hK4 => ?_) ?_
    ·
      refine TL.move rfl rfl ?_
      refine TL.lss rfl rfl rfl ?_
      refine TL.em (fun e21 => ?_) (fun e21 => ?_)
      ·
        refine TL.move rfl rfl ?_
        refine TL.guardNo (d := 22) rfl rfl rfl rfl rfl ?_
        refine TL.guardNo (d := 22) rfl rfl rfl rfl rfl ?_
        refine TL.pickT rfl rfl rfl rfl ?_
        refine TL.done ?_
        refine hK4 _ ?_
        refine Le.here rfl (by first | exact decide_eq_true (by omega) | exact decide_eq_false (by omega) | exact decide_eq_decide.2 (by omega)) ?_
        repeat (first | exact Le.refl _ | refine Le.skip rfl ?_)
      ·
        refine TL.move rfl rfl ?_
        refine TL.guardYes (d := 22) rfl rfl rfl ?_
        refine TL.move rfl rfl ?_
        refine TL.guardYes (d := 22) rfl rfl rfl ?_
        refine TL.gtr rfl rfl rfl ?_
        refine TL.pickF rfl rfl rfl rfl ?_
        refine TL.done ?_
        refine hK4 _ ?_
        refine Le.here rfl (by first | exact decide_eq_true (by omega) | exact decide_eq_false (by omega) | exact decide_eq_decide.2 (by omega)) ?_
        repeat (first | exact Le.refl _ | refine Le.skip rfl ?_)
    refine TC.condP rfl (fun h6 => ?_) (fun h6 => ?_)
    ·
      obtain ⟨h1, h2⟩ := Sha.pass_arg (t := t) h3 h6
      refine TC.seq ?_
      refine TC.region ?_
      refine TL.assign rfl rfl ?_
      refine TL.assign rfl rfl ?_
      refine TL.done ?_
      refine Thn.go ?_
      refine TC.ret ?_
      refine Thn.ret ?_
      refine Ends.ret [6, 7] rfl rfl ?_
      exact ⟨by rw [h1, h2]; rfl, Ch.refl _ _⟩
    ·
      obtain ⟨h1, h2⟩ := Sha.pass_ok h3 h6
      rw [h1, h2]
      refine TC.skip ?_
      refine Thn.go ?_
      refine TC.seq ?_
      refine TC.region ?_
      refine TL.move rfl rfl ?_
      refine TL.strRd Try.underlying9 Try.underlying22 Try.underlying5 rfl (by omega) rfl (fun w27 v27 hv27 hs27 hob27 hc27 hzz27 => ?_)
      refine TL.assign rfl rfl ?_
      refine TL.done ?_
      refine Thn.go ?_
      refine TC.seq ?_
      refine TC.region ?_
      refine TL.alloc ze30 rfl (fun w9 hb9 hc9 hz9 => ?_)
      have z27 := hc27.size
      refine TL.done ?_
      refine Thn.go ?_
      refine TC.seq ?_
      refine TC.seq ?_
      refine TC.region ?_
      refine TL.assign rfl rfl ?_
      refine TL.done ?_
      refine Thn.go ?_
      refine TC.block ?_
      refine TC.loop2 (fun (i : Nat) (v : Value) => [(0, str s), (2, .int .i64 t), (8, v), (9, .pointer (some ⟨w27.heap.size, 0, none⟩)), (10, .int .i64 (i : Int))]) (fun i v w3 => (i : Int) ≤ t ∧ Rd w3 v 1 (Sha.chain s p i).length ((Sha.chain s p i).map u8) ∧ v.ownBlock ≠ some w27.heap.size ∧ (∃ cur, cur.size = 32 ∧ Has w3 w27.heap.size cur 30 (0, 0)) ∧ Ch [w27.heap.size] w9 w3) (fun i _ => t.toNat - i) 0 v27 (by repeat (first | exact trivial | refine ⟨rfl, ?_⟩)) (⟨by omega, hv27.ch0 hc9, by rw [hob27]; intro e; injection e with e; omega, ⟨_, by simp [Value.cells], hb9⟩, Ch.refl _ _⟩) (fun i v w3 hH => ?_)
      obtain ⟨hi, hR, hno, ⟨cur, hcs, hcur⟩, hch⟩ := hH
      have hcl := Sha.chain_len s p i (by omega)
      refine TC.seq ?_
      refine TC.seq ?_
      refine TC.region ?_
      refine TL.move rfl rfl ?_
      refine TL.move rfl rfl ?_
      refine TL.lss rfl rfl rfl ?_
      refine TL.done ?_
      refine Thn.go ?_
      refine TC.condP rfl (fun h8 => ?_) (fun h8 => ?_)
      ·
        obtain ⟨av, cv, rfl, _⟩ := hR.shape
        refine TC.skip ?_
        refine Thn.go ?_
        refine TC.seq ?_
        refine TC.block ?_
        refine TC.seq ?_
        refine TC.region ?_
        refine TL.move rfl rfl ?_
        refine TL.strRd Try.underlying9 Try.underlying22 Try.underlying5 rfl (by omega) rfl (fun w34 v34 hv34 hs34 _ hc34 hzz34 => ?_)
        refine TL.move rfl rfl ?_
        refine TL.call can16 rfl rfl (fn16 _ _ s (Sha.chain s p i) (by omega) (by omega) w34 hv34 (hR.ch0 hc34)) (fun v36 w36 hr36 => ?_)
        obtain ⟨rfl, hc36⟩ := hr36
        have hsl := Sha.hmac_len s (Sha.chain s p i)
        have hcur2 := (hcur.ch0 hc34).ch0 hc36
        refine TL.store sz30 rfl rfl (by simpa [Value.cells] using hsl) hcur2 (by omega) (by simpa [Value.cells] using one_u8 (Sha.hmac s (Sha.chain s p i))) (.inl rfl) (fun ws1 hbs1 hcs1 hzs1 => ?_)
        replace hbs1 : Has ws1 w27.heap.size ((Sha.hmac s (Sha.chain s p i)).map u8).toArray 30 (0, 0) := hbs1.setAll (by simp [Value.cells, hsl, hcs])
        have q1 : Ch [w27.heap.size] w9 ws1 := (hch.trans (hc34.trans0 hc36) (fun _ h _ => h) (by simp)).trans hcs1 (fun _ h _ => h) (fun _ h _ => h)
        obtain ⟨D, hD⟩ : ∃ D, Sha.hmac s (Sha.chain s p i) = D := ⟨_, rfl⟩
        rw [hD] at hbs1 hsl
        refine TL.done ?_
        refine Thn.go ?_
        refine TC.seq ?_
        refine TC.region ?_
        refine TL.assign rfl rfl ?_
        refine TL.done ?_
        refine Thn.go ?_
        refine TC.seq ?_
        refine TC.region ?_
        refine TL.assign rfl rfl ?_
        refine TL.done ?_
        refine Thn.go ?_
        refine TC.block ?_
        refine TC.loop2 (fun (k : Nat) (v : Value) => [(0, str s), (2, .int .i64 t), (8, v), (9, .pointer (some ⟨w27.heap.size, 0, none⟩)), (10, .int .i64 (i : Int)), (11, .int .i64 (k : Int))]) (fun k v w4 => k ≤ 32 ∧ Own w4 ws1.heap.size 5 1 v k ((D.take k).map u8) ∧ Ch [] ws1 w4) (fun k _ => 32 - k) 0 (.slice none 0 0) (by repeat (first | exact trivial | refine ⟨rfl, ?_⟩)) (⟨by omega, World.ownsRow_nil _ _ _ _, Ch.refl _ _⟩) (fun k v w4 hH => ?_)
        obtain ⟨hk, hown, hch4⟩ := hH
        have z4 := hch4.size
        refine TC.seq ?_
        refine TC.seq ?_
        refine TC.region ?_
        refine TL.move rfl rfl ?_
        refine TL.lss rfl rfl rfl ?_
        refine TL.done ?_
        refine Thn.go ?_
        refine TC.condP rfl (fun h10 => ?_) (fun h10 => ?_)
        ·
          have hk3 : k < 32 := by omega
          refine TC.skip ?_
          refine Thn.go ?_
          refine TC.seq ?_
          refine TC.block ?_
          refine TC.region ?_
          refine TL.move rfl rfl ?_
          refine TL.move rfl rfl ?_
          refine TL.indexArr (k) ar30 rfl rfl (by first | rfl | omega) (by omega) rfl ?_
          refine TL.load pl5 rfl (by rw [(hbs1.ch0 hch4).cell, Nat.zero_add, Nat.mul_one, List.getElem?_toArray, List.getElem?_map, map_getD D k 0 (by omega)]; rfl) rfl ?_
          refine TL.buildSlice [.tmp 44] sl22 rfl rfl rfl (by decide) (by simp [Value.cells]) rfl (fun w45 hb45 hc45 hz45 => ?_)
          refine TL.append sl22 rfl rfl rfl (hown.ch0 hc45) (News.ofRd Try.underlying22 (Rd.byte _ hb45) (one_byte _)) (by omega) (by omega) (by omega) (fun v46 w46 hv46 hc46 _ => ?_)
          refine TL.assign rfl rfl ?_
          refine TL.done ?_
          refine Blk.go ?_
          refine Thn.go ?_
          refine TC.region ?_
          refine TL.move rfl rfl ?_
          refine TL.add_i64 rfl rfl (by omega) (by omega) rfl ?_
          refine TL.assign rfl rfl ?_
          refine TL.done ?_
          refine Lp.go ((k + 1, v46)) (by repeat (first | exact trivial | refine ⟨rfl, ?_⟩)) ?_ (by first | omega | (dsimp only; omega))
          refine ⟨by show k + 1 ≤ 32; omega, ?_, (hown.ch0 hc45).thenCh (hch4.trans0 hc45) hc46⟩
          show Own w46 _ 5 1 v46 (k + 1) ((D.take (k + 1)).map u8)
          rw [List.take_add_one, map_getD D k 0 (by omega), List.map_append]
          exact hv46
        ·
          have hk3 : k = 32 := by omega
          subst hk3
          rw [List.take_of_length_le (by omega)] at hown
          refine TC.exit ?_
          refine Thn.exit ?_
          refine Lp.exit ?_
          refine Blk.hit ?_
          refine Blk.go ?_
          refine Thn.go ?_
          refine TC.region ?_
          refine TL.move rfl rfl ?_
          refine TL.add_i64 rfl rfl (by omega) (by omega) rfl ?_
          refine TL.assign rfl rfl ?_
          refine TL.done ?_
          refine Lp.go ((i + 1, v)) (by repeat (first | exact trivial | refine ⟨rfl, ?_⟩)) (?_) (by show t.toNat - (i + 1) < t.toNat - i; omega)
          refine ⟨by show ((i + 1 : Nat) : Int) ≤ t; omega, Rd.bytes (Sha.chain s p (i + 1)) (Rd.ofOwn hown) (by rw [Sha.chain, hD, hsl]) (by rw [Sha.chain, hD]), fun e => ?_, ⟨_, by simp [hsl], hbs1.ch0 hch4⟩, q1.trans hch4 (fun _ h _ => h) (by simp)⟩
          have := hown.ge _ e; have := hbs1.lt; omega
      ·
        have hit : t.toNat = i := by omega
        obtain ⟨av, cv, rfl, _⟩ := hR.shape
        refine TC.exit ?_
        refine Thn.exit ?_
        refine Lp.exit ?_
        refine Blk.hit ?_
        refine Thn.go ?_
        refine TC.seq ?_
        refine TC.region ?_
        refine TL.move rfl rfl ?_
        refine TL.call can12 rfl rfl (fn12 _ (Sha.chain s p i) w3 hR (by omega)) (fun v48 w48 hr48 => ?_)
        obtain ⟨rfl, hc48⟩ := hr48
        refine TL.assign rfl rfl ?_
        refine TL.assign rfl rfl ?_
        refine TL.done ?_
        refine Thn.go ?_
        refine TC.ret ?_
        refine Ends.ret [6, 7] rfl rfl ?_
        exact ⟨by rw [hit]; rfl, (((hc27.trans0 hc9).then1 hch z27).trans0 hc48)⟩

theorem fn6 (s p : List UInt8) (t : Int) (w : World) : Rets Try.prog 6 #[str s, str p, .int .i64 t] w (fun v w' => v = .bool true ∧ Ch [] w w') := by
  refine Rets.of (n := 61) (vs := [_, _, _]) Try.func6 rfl rfl rfl ?_
  refine TC.seq ?_
  refine TC.region ?_
  refine TL.assign rfl rfl ?_
  refine TL.done ?_
  refine Thn.go ?_
  refine TC.seq ?_
  refine TC.regionBool (d := 38) (p := ((3000 < s.length ∧ s.length ≤ 16384) ∨ (3000 < p.length ∧ p.length ≤ 16384) ∨ 17000 < s.length ∨ 17000 < p.length)) (fun K1 hK1 => ?_) ?_
  ·
    refine TL.move rfl rfl ?_
    refine TL.lenStr Try.underlying9 rfl rfl ?_
    refine TL.gtr rfl rfl rfl ?_
    refine TL.em (fun e13 => ?_) (fun e13 => ?_)
    ·
      refine TL.move rfl rfl ?_
      refine TL.guardYes (d := 14) rfl rfl rfl ?_
      refine TL.move rfl rfl ?_
      refine TL.guardYes (d := 14) rfl rfl rfl ?_
      refine TL.lenStr Try.underlying9 rfl rfl ?_
      refine TL.guardYes (d := 14) rfl rfl rfl ?_
      refine TL.leq rfl rfl rfl ?_
      refine TL.em (fun e17 => ?_) (fun e17 => ?_)
      ·
        refine TL.pickT rfl rfl rfl rfl ?_
        refine TL.move rfl rfl ?_
        refine TL.guardNo (d := 19) rfl rfl rfl rfl rfl ?_
        refine TL.guardNo (d := 19) rfl rfl rfl rfl rfl ?_
        refine TL.guardNo (d := 19) rfl rfl rfl rfl rfl ?_
        refine TL.guardNo (d := 19) rfl rfl rfl rfl rfl ?_
        refine TL.guardUndef (d := 23) rfl rfl rfl rfl ?_
        refine TL.guardUndef (d := 23) rfl rfl rfl rfl ?_
        refine TL.guardUndef (d := 23) rfl rfl rfl rfl ?_
        refine TL.guardNo (d := 19) rfl rfl rfl rfl rfl ?_
        refine TL.pickT rfl rfl rfl rfl ?_
        refine TL.move rfl rfl ?_
        refine TL.guardNo (d := 29) rfl rfl rfl rfl rfl ?_
        refine TL.guardNo (d := 29) rfl rfl rfl rfl rfl ?_
        refine TL.guardNo (d := 29) rfl rfl rfl rfl rfl ?_
        refine TL.pickT rfl rfl rfl rfl ?_
        refine TL.move rfl rfl ?_
        refine TL.guardNo (d := 34) rfl rfl rfl rfl rfl ?_
        refine TL.guardNo (d := 34) rfl rfl rfl rfl rfl ?_
        refine TL.guardNo (d := 34) rfl rfl rfl rfl rfl ?_
        refine TL.pickT rfl rfl rfl rfl ?_
        refine TL.done ?_
        refine hK1 _ ?_
        refine Le.here rfl (by first | exact decide_eq_true (by omega) | exact decide_eq_false (by omega) | exact decide_eq_decide.2 (by omega)) ?_
        repeat (first | exact Le.refl _ | refine Le.skip rfl ?_)
      ·
        refine TL.pickT rfl rfl rfl rfl ?_
        refine TL.move rfl rfl ?_
        refine TL.guardYes (d := 19) rfl rfl rfl ?_
        refine TL.move rfl rfl ?_
        refine TL.guardYes (d := 19) rfl rfl rfl ?_
        refine TL.lenStr Try.underlying9 rfl rfl ?_
        refine TL.guardYes (d := 19) rfl rfl rfl ?_
        refine TL.gtr rfl rfl rfl ?_
        refine TL.em (fun e22 => ?_) (fun e22 => ?_)
        ·
          refine TL.guardYes (d := 19) rfl rfl rfl ?_
          refine TL.move rfl rfl ?_
          refine TL.guardYes (d := 23) rfl rfl rfl ?_
          refine TL.move rfl rfl ?_
          refine TL.guardYes (d := 23) rfl rfl rfl ?_
          refine TL.lenStr Try.underlying9 rfl rfl ?_
          refine TL.guardYes (d := 23) rfl rfl rfl ?_
          refine TL.leq rfl rfl rfl ?_
          refine TL.em (fun e26 => ?_) (fun e26 => ?_)
          ·
            refine TL.guardYes (d := 19) rfl rfl rfl ?_
            refine TL.pickT rfl rfl rfl rfl ?_
            refine TL.pickF rfl rfl rfl rfl ?_
            refine TL.move rfl rfl ?_
            refine TL.guardNo (d := 29) rfl rfl rfl rfl rfl ?_
            refine TL.guardNo (d := 29) rfl rfl rfl rfl rfl ?_
            refine TL.guardNo (d := 29) rfl rfl rfl rfl rfl ?_
            refine TL.pickT rfl rfl rfl rfl ?_
            refine TL.move rfl rfl ?_
            refine TL.guardNo (d := 34) rfl rfl rfl rfl rfl ?_
            refine TL.guardNo (d := 34) rfl rfl rfl rfl rfl ?_
            refine TL.guardNo (d := 34) rfl rfl rfl rfl rfl ?_
            refine TL.pickT rfl rfl rfl rfl ?_
            refine TL.done ?_
            refine hK1 _ ?_
            refine Le.here rfl (by first | exact decide_eq_true (by omega) | exact decide_eq_false (by omega) | exact decide_eq_decide.2 (by omega)) ?_
            repeat (first | exact Le.refl _ | refine Le.skip rfl ?_)
          ·
            refine TL.guardYes (d := 19) rfl rfl rfl ?_
            refine TL.pickT rfl rfl rfl rfl ?_
            refine TL.pickF rfl rfl rfl rfl ?_
            refine TL.move rfl rfl ?_
            refine TL.guardYes (d := 29) rfl rfl rfl ?_
            refine TL.move rfl rfl ?_
            refine TL.guardYes (d := 29) rfl rfl rfl ?_
            refine TL.lenStr Try.underlying9 rfl rfl ?_
            refine TL.guardYes (d := 29) rfl rfl rfl ?_
            refine TL.gtr rfl rfl rfl ?_
            refine TL.em (fun e32 => ?_) (fun e32 => ?_)
            ·
              refine TL.pickF rfl rfl rfl rfl ?_
              refine TL.move rfl rfl ?_
              refine TL.guardNo (d := 34) rfl rfl rfl rfl rfl ?_
              refine TL.guardNo (d := 34) rfl rfl rfl rfl rfl ?_
              refine TL.guardNo (d := 34) rfl rfl rfl rfl rfl ?_
              refine TL.pickT rfl rfl rfl rfl ?_
              refine TL.done ?_
              refine hK1 _ ?_
              refine Le.here rfl (by first | exact decide_eq_true (by omega) | exact decide_eq_false (by omega) | exact decide_eq_decide.2 (by omega)) ?_
              repeat (first | exact Le.refl _ | refine Le.skip rfl ?_)
            ·
              refine TL.pickF rfl rfl rfl rfl ?_
              refine TL.move rfl rfl ?_
              refine TL.guardYes (d := 34) rfl rfl rfl ?_
              refine TL.move rfl rfl ?_
              refine TL.guardYes (d := 34) rfl rfl rfl ?_
              refine TL.lenStr Try.underlying9 rfl rfl ?_
              refine TL.guardYes (d := 34) rfl rfl rfl ?_
              refine TL.gtr rfl rfl rfl ?_
              refine TL.pickF rfl rfl rfl rfl ?_
              refine TL.done ?_
              refine hK1 _ ?_
              refine Le.here rfl (by first | exact decide_eq_true (by omega) | exact decide_eq_false (by omega) | exact decide_eq_decide.2 (by omega)) ?_
              repeat (first | exact Le.refl _ | refine Le.skip rfl ?_)
        ·
          refine TL.guardYes (d := 19) rfl rfl rfl ?_
          refine TL.move rfl rfl ?_
          refine TL.guardNo (d := 23) rfl rfl rfl rfl rfl ?_
          refine TL.guardNo (d := 23) rfl rfl rfl rfl rfl ?_
          refine TL.guardNo (d := 23) rfl rfl rfl rfl rfl ?_
          refine TL.guardYes (d := 19) rfl rfl rfl ?_
          refine TL.pickF rfl rfl rfl rfl ?_
          refine TL.pickF rfl rfl rfl rfl ?_
          refine TL.move rfl rfl ?_
          refine TL.guardYes (d := 29) rfl rfl rfl ?_
          refine TL.move rfl rfl ?_
          refine TL.guardYes (d := 29) rfl rfl rfl ?_
          refine TL.lenStr Try.underlying9 rfl rfl ?_
          refine TL.guardYes (d := 29) rfl rfl rfl ?_
          refine TL.gtr rfl rfl rfl ?_
          refine TL.em (fun e32 => ?_) (fun e32 => ?_)
          ·
            refine TL.pickF rfl rfl rfl rfl ?_
            refine TL.move rfl rfl ?_
            refine TL.guardNo (d := 34) rfl rfl rfl rfl rfl ?_
            refine TL.guardNo (d := 34) rfl rfl rfl rfl rfl ?_
            refine TL.guardNo (d := 34) rfl rfl rfl rfl rfl ?_
            refine TL.pickT rfl rfl rfl rfl ?_
            refine TL.done ?_
            refine hK1 _ ?_
            refine Le.here rfl (by first | exact decide_eq_true (by omega) | exact decide_eq_false (by omega) | exact decide_eq_decide.2 (by omega)) ?_
            repeat (first | exact Le.refl _ | refine Le.skip rfl ?_)
          ·
            refine TL.pickF rfl rfl rfl rfl ?_
            refine TL.move rfl rfl ?_
            refine TL.guardYes (d := 34) rfl rfl rfl ?_
            refine TL.move rfl rfl ?_
            refine TL.guardYes (d := 34) rfl rfl rfl ?_
            refine TL.lenStr Try.underlying9 rfl rfl ?_
            refine TL.guardYes (d := 34) rfl rfl rfl ?_
            refine TL.gtr rfl rfl rfl ?_
            refine TL.pickF rfl rfl rfl rfl ?_
            refine TL.done ?_
            refine hK1 _ ?_
            refine Le.here rfl (by first | exact decide_eq_true (by omega) | exact decide_eq_false (by omega) | exact decide_eq_decide.2 (by omega)) ?_
            repeat (first | exact Le.refl _ | refine Le.skip rfl ?_)
    ·
      refine TL.move rfl rfl ?_
      refine TL.guardNo (d := 14) rfl rfl rfl rfl rfl ?_
      refine TL.guardNo (d := 14) rfl rfl rfl rfl rfl ?_
      refine TL.guardNo (d := 14) rfl rfl rfl rfl rfl ?_
      refine TL.pickF rfl rfl rfl rfl ?_
      refine TL.move rfl rfl ?_
      refine TL.guardYes (d := 19) rfl rfl rfl ?_
      refine TL.move rfl rfl ?_
      refine TL.guardYes (d := 19) rfl rfl rfl ?_
      refine TL.lenStr Try.underlying9 rfl rfl ?_
      refine TL.guardYes (d := 19) rfl rfl rfl ?_
      refine TL.gtr rfl rfl rfl ?_
      refine TL.em (fun e22 => ?_) (fun e22 => ?_)
      ·
        refine TL.guardYes (d := 19) rfl rfl rfl ?_
        refine TL.move rfl rfl ?_
        refine TL.guardYes (d := 23) rfl rfl rfl ?_
        refine TL.move rfl rfl ?_
        refine TL.guardYes (d := 23) rfl rfl rfl ?_
        refine TL.lenStr Try.underlying9 rfl rfl ?_
        refine TL.guardYes (d := 23) rfl rfl rfl ?_
        refine TL.leq rfl rfl rfl ?_
        refine TL.em (fun e26 => ?_) (fun e26 => ?_)
        ·
          refine TL.guardYes (d := 19) rfl rfl rfl ?_
          refine TL.pickT rfl rfl rfl rfl ?_
          refine TL.pickF rfl rfl rfl rfl ?_
          refine TL.move rfl rfl ?_
          refine TL.guardNo (d := 29) rfl rfl rfl rfl rfl ?_
          refine TL.guardNo (d := 29) rfl rfl rfl rfl rfl ?_
          refine TL.guardNo (d := 29) rfl rfl rfl rfl rfl ?_
          refine TL.pickT rfl rfl rfl rfl ?_
          refine TL.move rfl rfl ?_
          refine TL.guardNo (d := 34) rfl rfl rfl rfl rfl ?_
          refine TL.guardNo (d := 34) rfl rfl rfl rfl rfl ?_
          refine TL.guardNo (d := 34) rfl rfl rfl rfl rfl ?_
          refine TL.pickT rfl rfl rfl rfl ?_
          refine TL.done ?_
          refine hK1 _ ?_
          refine Le.here rfl (by first | exact decide_eq_true (by omega) | exact decide_eq_false (by omega) | exact decide_eq_decide.2 (by omega)) ?_
          repeat (first | exact Le.refl _ | refine Le.skip rfl ?_)
        ·
          refine TL.guardYes (d := 19) rfl rfl rfl ?_
          refine TL.pickT rfl rfl rfl rfl ?_
          refine TL.pickF rfl rfl rfl rfl ?_
          refine TL.move rfl rfl ?_
          refine TL.guardYes (d := 29) rfl rfl rfl ?_
          refine TL.move rfl rfl ?_
          refine TL.guardYes (d := 29) rfl rfl rfl ?_
          refine TL.lenStr Try.underlying9 rfl rfl ?_
          refine TL.guardYes (d := 29) rfl rfl rfl ?_
          refine TL.gtr rfl rfl rfl ?_
          refine TL.em (fun e32 => ?_) (fun e32 => ?_)
          ·
            refine TL.pickF rfl rfl rfl rfl ?_
            refine TL.move rfl rfl ?_
            refine TL.guardNo (d := 34) rfl rfl rfl rfl rfl ?_
            refine TL.guardNo (d := 34) rfl rfl rfl rfl rfl ?_
            refine TL.guardNo (d := 34) rfl rfl rfl rfl rfl ?_
            refine TL.pickT rfl rfl rfl rfl ?_
            refine TL.done ?_
            refine hK1 _ ?_
            refine Le.here rfl (by first | exact decide_eq_true (by omega) | exact decide_eq_false (by omega) | exact decide_eq_decide.2 (by omega)) ?_
            repeat (first | exact Le.refl _ | refine Le.skip rfl ?_)
          ·
            refine TL.pickF rfl rfl rfl rfl ?_
            refine TL.move rfl rfl ?_
            refine TL.guardYes (d := 34) rfl rfl rfl ?_
            refine TL.move rfl rfl ?_
            refine TL.guardYes (d := 34) rfl rfl rfl ?_
            refine TL.lenStr Try.underlying9 rfl rfl ?_
            refine TL.guardYes (d := 34) rfl rfl rfl ?_
            refine TL.gtr rfl rfl rfl ?_
            refine TL.pickF rfl rfl rfl rfl ?_
            refine TL.done ?_
            refine hK1 _ ?_
            refine Le.here rfl (by first | exact decide_eq_true (by omega) | exact decide_eq_false (by omega) | exact decide_eq_decide.2 (by omega)) ?_
            repeat (first | exact Le.refl _ | refine Le.skip rfl ?_)
      ·
        refine TL.guardYes (d := 19) rfl rfl rfl ?_
        refine TL.move rfl rfl ?_
        refine TL.guardNo (d := 23) rfl rfl rfl rfl rfl ?_
        refine TL.guardNo (d := 23) rfl rfl rfl rfl rfl ?_
        refine TL.guardNo (d := 23) rfl rfl rfl rfl rfl ?_
        refine TL.guardYes (d := 19) rfl rfl rfl ?_
        refine TL.pickF rfl rfl rfl rfl ?_
        refine TL.pickF rfl rfl rfl rfl ?_
        refine TL.move rfl rfl ?_
        refine TL.guardYes (d := 29) rfl rfl rfl ?_
        refine TL.move rfl rfl ?_
        refine TL.guardYes (d := 29) rfl rfl rfl ?_
        refine TL.lenStr Try.underlying9 rfl rfl ?_
        refine TL.guardYes (d := 29) rfl rfl rfl ?_
        refine TL.gtr rfl rfl rfl ?_
        refine TL.em (fun e32 => ?_) (fun e32 => ?_)
        ·
          refine TL.pickF rfl rfl rfl rfl ?_
          refine TL.move rfl rfl ?_
          refine TL.guardNo (d := 34) rfl rfl rfl rfl rfl ?_
          refine TL.guardNo (d := 34) rfl rfl rfl rfl rfl ?_
          refine TL.guardNo (d := 34) rfl rfl rfl rfl rfl ?_
          refine TL.pickT rfl rfl rfl rfl ?_
          refine TL.done ?_
          refine hK1 _ ?_
          refine Le.here rfl (by first | exact decide_eq_true (by omega) | exact decide_eq_false (by omega) | exact decide_eq_decide.2 (by omega)) ?_
          repeat (first | exact Le.refl _ | refine Le.skip rfl ?_)
        ·
          refine TL.pickF rfl rfl rfl rfl ?_
          refine TL.move rfl rfl ?_
          refine TL.guardYes (d := 34) rfl rfl rfl ?_
          refine TL.move rfl rfl ?_
          refine TL.guardYes (d := 34) rfl rfl rfl ?_
          refine TL.lenStr Try.underlying9 rfl rfl ?_
          refine TL.guardYes (d := 34) rfl rfl rfl ?_
          refine TL.gtr rfl rfl rfl ?_
          refine TL.pickF rfl rfl rfl rfl ?_
          refine TL.done ?_
          refine hK1 _ ?_
          refine Le.here rfl (by first | exact decide_eq_true (by omega) | exact decide_eq_false (by omega) | exact decide_eq_decide.2 (by omega)) ?_
          repeat (first | exact Le.refl _ | refine Le.skip rfl ?_)
  refine TC.condP rfl (fun h12 => ?_) (fun h12 => ?_)
  ·
    refine TC.seq ?_
    refine TC.region ?_
    refine TL.assign rfl rfl ?_
    refine TL.done ?_
    refine Thn.go ?_
    refine TC.ret ?_
    refine Thn.ret ?_
    refine Ends.ret [6] rfl rfl ?_
    exact ⟨rfl, Ch.refl _ _⟩
  ·
    refine TC.skip ?_
    refine Thn.go ?_
    refine TC.seq ?_
    refine TC.region ?_
    refine TL.move rfl rfl ?_
    refine TL.move rfl rfl ?_
    refine TL.move rfl rfl ?_
    refine TL.call can20 rfl rfl (fn20 s p t w) (fun v43 w43 hr43 => ?_)
    obtain ⟨rfl, hc43⟩ := hr43
    refine TL.move rfl rfl ?_
    refine TL.extract rfl rfl rfl ?_
    refine TL.extract rfl rfl rfl ?_
    refine TL.assign rfl rfl ?_
    refine TL.assign rfl rfl ?_
    refine TL.done ?_
    refine Thn.go ?_
    refine TC.seq ?_
    refine TC.region ?_
    refine TL.move rfl rfl ?_
    refine TL.move rfl rfl ?_
    refine TL.move rfl rfl ?_
    refine TL.call can21 rfl rfl (fn21 s p t w43) (fun v50 w50 hr50 => ?_)
    obtain ⟨rfl, hc50⟩ := hr50
    refine TL.move rfl rfl ?_
    refine TL.extract rfl rfl rfl ?_
    refine TL.extract rfl rfl rfl ?_
    refine TL.assign rfl rfl ?_
    refine TL.assign rfl rfl ?_
    refine TL.done ?_
    refine Thn.go ?_
    refine TC.seq ?_
    refine TC.region ?_
    refine TL.move rfl rfl ?_
    refine TL.move rfl rfl ?_
    refine TL.eqlStr rfl rfl rfl ?_
    refine TL.yes (rfl) ?_
    refine TL.move rfl rfl ?_
    refine TL.guardYes (d := 56) rfl rfl rfl ?_
    refine TL.move rfl rfl ?_
    refine TL.guardYes (d := 56) rfl rfl rfl ?_
    refine TL.move rfl rfl ?_
    refine TL.guardYes (d := 56) rfl rfl rfl ?_
    refine TL.eql rfl rfl rfl ?_
    refine TL.yes (rfl) ?_
    refine TL.pickT rfl rfl rfl rfl ?_
    refine TL.assign rfl rfl ?_
    refine TL.done ?_
    refine Thn.go ?_
    refine TC.ret ?_
    refine Ends.ret [6] rfl rfl ?_
    exact ⟨rfl, hc43.trans0 hc50⟩

theorem fn7 (s p : List UInt8) (t : Int) (w : World) : Rets Try.prog 7 #[str s, str p, .int .i64 t] w (fun v w' => v = .bool true ∧ Ch [] w w') := by
  have hmm : maxLen = 9223372036854775807 := rfl
  refine Rets.of (n := 82) (vs := [_, _, _]) Try.func7 rfl rfl rfl ?_
  refine TC.seq ?_
  refine TC.region ?_
  refine TL.assign rfl rfl ?_
  refine TL.done ?_
  refine Thn.go ?_
  refine TC.seq ?_
  refine TC.region ?_
  refine TL.call can19 rfl rfl (fn19 w) (fun v15 w15 hr15 => ?_)
  obtain ⟨rfl, hc15⟩ := hr15
  refine TL.assign rfl rfl ?_
  refine TL.done ?_
  refine Thn.go ?_
  refine TC.seq ?_
  refine TC.regionBool (d := 35) (p := (3000 < s.length ∨ 3000 < p.length ∨ t < 1 ∨ 63 < t)) (fun K1 hK1 => ?_) ?_
  ·
    refine TL.move rfl rfl ?_
    refine TL.lenStr Try.underlying9 rfl rfl ?_
    refine TL.gtr rfl rfl rfl ?_
    refine TL.em (fun e18 => ?_) (fun e18 => ?_)
    ·
      refine TL.move rfl rfl ?_
      refine TL.guardNo (d := 19) rfl rfl rfl rfl rfl ?_
      refine TL.guardNo (d := 19) rfl rfl rfl rfl rfl ?_
      refine TL.guardNo (d := 19) rfl rfl rfl rfl rfl ?_
      refine TL.pickT rfl rfl rfl rfl ?_
      refine TL.move rfl rfl ?_
      refine TL.guardNo (d := 24) rfl rfl rfl rfl rfl ?_
      refine TL.guardNo (d := 24) rfl rfl rfl rfl rfl ?_
      refine TL.pickT rfl rfl rfl rfl ?_
      refine TL.move rfl rfl ?_
      refine TL.guardNo (d := 28) rfl rfl rfl rfl rfl ?_
      refine TL.guardNo (d := 28) rfl rfl rfl rfl rfl ?_
      refine TL.pickT rfl rfl rfl rfl ?_
      refine TL.move rfl rfl ?_
      refine TL.guardNo (d := 32) rfl rfl rfl rfl rfl ?_
      refine TL.guardNo (d := 32) rfl rfl rfl rfl rfl ?_
      refine TL.pickT rfl rfl rfl rfl ?_
      refine TL.done ?_
      refine hK1 _ ?_
      refine Le.here rfl (by first | exact decide_eq_true (by omega) | exact decide_eq_false (by omega) | exact decide_eq_decide.2 (by omega)) ?_
      repeat (first | exact Le.refl _ | refine Le.skip rfl ?_)
    ·
      refine TL.move rfl rfl ?_
      refine TL.guardYes (d := 19) rfl rfl rfl ?_
      refine TL.move rfl rfl ?_
      refine TL.guardYes (d := 19) rfl rfl rfl ?_
      refine TL.lenStr Try.underlying9 rfl rfl ?_
      refine TL.guardYes (d := 19) rfl rfl rfl ?_
      refine TL.gtr rfl rfl rfl ?_
      refine TL.em (fun e22 => ?_) (fun e22 => ?_)
      ·
        refine TL.pickF rfl rfl rfl rfl ?_
        refine TL.move rfl rfl ?_
        refine TL.guardNo (d := 24) rfl rfl rfl rfl rfl ?_
        refine TL.guardNo (d := 24) rfl rfl rfl rfl rfl ?_
        refine TL.pickT rfl rfl rfl rfl ?_
        refine TL.move rfl rfl ?_
        refine TL.guardNo (d := 28) rfl rfl rfl rfl rfl ?_
        refine TL.guardNo (d := 28) rfl rfl rfl rfl rfl ?_
        refine TL.pickT rfl rfl rfl rfl ?_
        refine TL.move rfl rfl ?_
        refine TL.guardNo (d := 32) rfl rfl rfl rfl rfl ?_
        refine TL.guardNo (d := 32) rfl rfl rfl rfl rfl ?_
        refine TL.pickT rfl rfl rfl rfl ?_
        refine TL.done ?_
        refine hK1 _ ?_
        refine Le.here rfl (by first | exact decide_eq_true (by omega) | exact decide_eq_false (by omega) | exact decide_eq_decide.2 (by omega)) ?_
        repeat (first | exact Le.refl _ | refine Le.skip rfl ?_)
      ·
        refine TL.pickF rfl rfl rfl rfl ?_
        refine TL.move rfl rfl ?_
        refine TL.guardYes (d := 24) rfl rfl rfl ?_
        refine TL.move rfl rfl ?_
        refine TL.guardYes (d := 24) rfl rfl rfl ?_
        refine TL.lss rfl rfl rfl ?_
        refine TL.em (fun e26 => ?_) (fun e26 => ?_)
        ·
          refine TL.pickF rfl rfl rfl rfl ?_
          refine TL.move rfl rfl ?_
          refine TL.guardNo (d := 28) rfl rfl rfl rfl rfl ?_
          refine TL.guardNo (d := 28) rfl rfl rfl rfl rfl ?_
          refine TL.pickT rfl rfl rfl rfl ?_
          refine TL.move rfl rfl ?_
          refine TL.guardNo (d := 32) rfl rfl rfl rfl rfl ?_
          refine TL.guardNo (d := 32) rfl rfl rfl rfl rfl ?_
          refine TL.pickT rfl rfl rfl rfl ?_
          refine TL.done ?_
          refine hK1 _ ?_
          refine Le.here rfl (by first | exact decide_eq_true (by omega) | exact decide_eq_false (by omega) | exact decide_eq_decide.2 (by omega)) ?_
          repeat (first | exact Le.refl _ | refine Le.skip rfl ?_)
        ·
          refine TL.pickF rfl rfl rfl rfl ?_
          refine TL.move rfl rfl ?_
          refine TL.guardYes (d := 28) rfl rfl rfl ?_
          refine TL.move rfl rfl ?_
          refine TL.guardYes (d := 28) rfl rfl rfl ?_
          refine TL.gtr rfl rfl rfl ?_
          refine TL.em (fun e30 => ?_) (fun e30 => ?_)
          ·
            refine TL.pickF rfl rfl rfl rfl ?_
            refine TL.move rfl rfl ?_
            refine TL.guardNo (d := 32) rfl rfl rfl rfl rfl ?_
            refine TL.guardNo (d := 32) rfl rfl rfl rfl rfl ?_
            refine TL.pickT rfl rfl rfl rfl ?_
            refine TL.done ?_
            refine hK1 _ ?_
            refine Le.here rfl (by first | exact decide_eq_true (by omega) | exact decide_eq_false (by omega) | exact decide_eq_decide.2 (by omega)) ?_
            repeat (first | exact Le.refl _ | refine Le.skip rfl ?_)
          ·
            refine TL.pickF rfl rfl rfl rfl ?_
            refine TL.move rfl rfl ?_
            refine TL.guardYes (d := 32) rfl rfl rfl ?_
            refine TL.move rfl rfl ?_
            refine TL.guardYes (d := 32) rfl rfl rfl ?_
            refine TL.not rfl rfl ?_
            refine TL.pickF rfl rfl rfl rfl ?_
            refine TL.done ?_
            refine hK1 _ ?_
            refine Le.here rfl (by first | exact decide_eq_true (by omega) | exact decide_eq_false (by omega) | exact decide_eq_decide.2 (by omega)) ?_
            repeat (first | exact Le.refl _ | refine Le.skip rfl ?_)
  refine TC.condP rfl (fun h6 => ?_) (fun h6 => ?_)
  ·
    refine TC.seq ?_
    refine TC.region ?_
    refine TL.move rfl rfl ?_
    refine TL.assign rfl rfl ?_
    refine TL.done ?_
    refine Thn.go ?_
    refine TC.ret ?_
    refine Thn.ret ?_
    refine Ends.ret [6] rfl rfl ?_
    exact ⟨rfl, hc15⟩
  ·
    obtain ⟨n, hn⟩ : ∃ n : Nat, t.toNat = n := ⟨_, rfl⟩
    have hn1 : (t + 1).toNat = n + 1 := by omega
    have h32 := Sha.chain_32 s p (n := n) (by omega)
    refine TC.skip ?_
    refine Thn.go ?_
    refine TC.seq ?_
    refine TC.region ?_
    refine TL.move rfl rfl ?_
    refine TL.move rfl rfl ?_
    refine TL.move rfl rfl ?_
    refine TL.call can20 rfl rfl (fn20 s p t w15) (fun v41 w41 hr41 => ?_)
    obtain ⟨rfl, hc41⟩ := hr41
    obtain ⟨e1, e2⟩ := Sha.pass_ok (s := s) (p := p) (t := t) (by omega) (by omega)
    rw [e1, e2, hn]
    refine TL.move rfl rfl ?_
    refine TL.extract rfl rfl rfl ?_
    refine TL.extract rfl rfl rfl ?_
    refine TL.assign rfl rfl ?_
    refine TL.assign rfl rfl ?_
    refine TL.done ?_
    refine Thn.go ?_
    refine TC.seq ?_
    refine TC.region ?_
    refine TL.move rfl rfl ?_
    refine TL.move rfl rfl ?_
    refine TL.move rfl rfl ?_
    refine TL.add_i64 rfl rfl (by omega) (by omega) rfl ?_
    refine TL.call can20 rfl rfl (fn20 s p (t + 1) w41) (fun v49 w49 hr49 => ?_)
    obtain ⟨rfl, hc49⟩ := hr49
    obtain ⟨e1, e2⟩ := Sha.pass_ok (s := s) (p := p) (t := t + 1) (by omega) (by omega)
    rw [e1, e2, hn1]
    refine TL.move rfl rfl ?_
    refine TL.extract rfl rfl rfl ?_
    refine TL.extract rfl rfl rfl ?_
    refine TL.assign rfl rfl ?_
    refine TL.assign rfl rfl ?_
    refine TL.done ?_
    refine Thn.go ?_
    refine TC.seq ?_
    refine TC.region ?_
    refine TL.move rfl rfl ?_
    refine TL.call can9 rfl rfl (fn9 (Hex.hexL (Sha.chain s p n)) (by rw [Hex.hexL_len, h32]; omega) w49) (fun v54 w54 hr54 => ?_)
    obtain ⟨r54, rfl, hv54, hc54⟩ := hr54
    obtain ⟨hE, hL⟩ := Sha.unE_hex (Sha.chain s p n)
    rw [hE]
    rw [hL] at hv54
    obtain ⟨a54, c54, rfl⟩ := hv54.shape
    refine TL.move rfl rfl ?_
    refine TL.extract rfl rfl rfl ?_
    refine TL.extract rfl rfl rfl ?_
    refine TL.assign rfl rfl ?_
    refine TL.assign rfl rfl ?_
    refine TL.done ?_
    refine Thn.go ?_
    refine TC.seq ?_
    refine TC.region ?_
    refine TL.move rfl rfl ?_
    refine TL.strRd Try.underlying9 Try.underlying22 Try.underlying5 rfl (by omega) rfl (fun w58 v58 hv58 hs58 _ hc58 hzz58 => ?_)
    refine TL.move rfl rfl ?_
    refine TL.call can15 rfl rfl (fn15 _ _ s (Sha.chain s p n) (by omega) (by omega) w58 hv58 ((Rd.ofOwn hv54).ch0 hc58)) (fun v60 w60 hr60 => ?_)
    obtain ⟨rfl, hc60⟩ := hr60
    have hsl := Sha.hmac_len s (Sha.chain s p n)
    refine TL.alloc ze30 rfl (fun w14 hb14 hc14 hz14 => ?_)
    refine TL.store sz30 rfl rfl (by simpa [Value.cells] using hsl) hb14 (by simp [Value.cells]) (by simpa [Value.cells] using one_u8 (Sha.hmac s (Sha.chain s p n))) (.inl rfl) (fun ws1 hbs1 hcs1 hzs1 => ?_)
    replace hbs1 : Has ws1 w60.heap.size ((Sha.hmac s (Sha.chain s p n)).map u8).toArray 30 (0, 0) := hbs1.setAll (by simp [Value.cells, hsl])
    have q0 : Ch [] w w60 := ((((hc15.trans0 hc41).trans0 hc49).trans0 hc54).trans0 hc58).trans0 hc60
    have q1 : Ch [] w ws1 := (q0.trans0 hc14).then1 hcs1 q0.size
    refine TL.done ?_
    refine Thn.go ?_
    refine TC.seq ?_
    refine TC.region ?_
    refine TL.move rfl rfl ?_
    refine TL.eql rfl rfl rfl ?_
    refine TL.yes (rfl) ?_
    refine TL.move rfl rfl ?_
    refine TL.guardYes (d := 63) rfl rfl rfl ?_
    refine TL.move rfl rfl ?_
    refine TL.guardYes (d := 63) rfl rfl rfl ?_
    refine TL.eql rfl rfl rfl ?_
    refine TL.yes (rfl) ?_
    refine TL.pickT rfl rfl rfl rfl ?_
    refine TL.move rfl rfl ?_
    refine TL.guardYes (d := 67) rfl rfl rfl ?_
    refine TL.move rfl rfl ?_
    refine TL.guardYes (d := 67) rfl rfl rfl ?_
    refine TL.eql rfl rfl rfl ?_
    refine TL.yes (rfl) ?_
    refine TL.pickT rfl rfl rfl rfl ?_
    refine TL.move rfl rfl ?_
    refine TL.guardYes (d := 71) rfl rfl rfl ?_
    refine TL.sliceArr ar30 rfl rfl ?_
    refine TL.guardYes (d := 71) rfl rfl rfl ?_
    refine TL.call can11 rfl rfl (fn11 _ (Sha.hmac s (Sha.chain s p n)) ws1 (Rd.bytes _ (Rd.ofRow (m := 32) hbs1 (by simp [hsl]) (by decide)) hsl.symm rfl) (by omega)) (fun v73 w73 hr73 => ?_)
    obtain ⟨rfl, hc73⟩ := hr73
    refine TL.guardYes (d := 71) rfl rfl rfl ?_
    refine TL.move rfl rfl ?_
    refine TL.guardYes (d := 71) rfl rfl rfl ?_
    refine TL.eqlStr rfl rfl rfl ?_
    refine TL.yes (rfl) ?_
    refine TL.pickT rfl rfl rfl rfl ?_
    refine TL.move rfl rfl ?_
    refine TL.guardYes (d := 77) rfl rfl rfl ?_
    refine TL.move rfl rfl ?_
    refine TL.guardYes (d := 77) rfl rfl rfl ?_
    refine TL.lenStr Try.underlying9 rfl rfl ?_
    refine TL.guardYes (d := 77) rfl rfl rfl ?_
    refine TL.eql rfl rfl rfl ?_
    refine TL.yes (by rw [Hex.hexL_len, h32]; rfl) ?_
    refine TL.pickT rfl rfl rfl rfl ?_
    refine TL.assign rfl rfl ?_
    refine TL.done ?_
    refine Thn.go ?_
    refine TC.ret ?_
    refine Ends.ret [6] rfl rfl ?_
    exact ⟨rfl, q1.trans0 hc73⟩

