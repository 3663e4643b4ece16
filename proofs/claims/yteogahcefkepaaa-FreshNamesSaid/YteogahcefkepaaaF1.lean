/-
  Walks through the given program: each theorem fnN says what the call of function N of the translation hands back, for all arguments that its premises describe, and that nothing that was there has turned.
-/
import Derived.Test.YteogahcefkepaaaE2
import Derived.Test.YteogahcefkepaaaFr
namespace Go.Proofs.Yteogahcefkepaaa
open Go.Lane
theorem can23 : Callable Try.prog 23 := ⟨Try.f23, Try.func23, by kernel_rfl, rfl⟩

theorem fn18 (a : Value) (l : List En.Entry) (w : World) (ha : Rd w a 4 l.length (l.flatMap cl)) : Rets Try.prog 18 #[a] w (fun v w' => v = .int .i64 (En.checkE l : Int) ∧ Ch [] w w') := by
  refine Rets.of (n := 5) (vs := [_]) Try.func18 rfl rfl rfl ?_
  refine TC.seq ?_
  refine TC.region ?_
  refine TL.assign rfl rfl ?_
  refine TL.done ?_
  refine Thn.go ?_
  refine TC.seq ?_
  refine TC.region ?_
  refine TL.move rfl rfl ?_
  refine TL.call can23 rfl rfl (fn23 a l w ha) (fun v4 w4 hr4 => ?_)
  obtain ⟨rfl, hc4⟩ := hr4
  refine TL.assign rfl rfl ?_
  refine TL.done ?_
  refine Thn.go ?_
  refine TC.ret ?_
  refine Ends.ret [2] rfl rfl ?_
  exact ⟨rfl, hc4⟩

theorem fn26 (a b : En.Entry) (w : World) : Rets Try.prog 26 #[.agg (cl a).toArray, .agg (cl b).toArray] w (fun v w' => v = .int .i64 (En.cmpE a b) ∧ Ch [] w w') := by
  refine Rets.of (n := 13) (vs := [_, _]) Try.func26 rfl rfl rfl ?_
  refine TC.seq ?_
  refine TC.region ?_
  refine TL.box rfl rfl (fun w2 hb2 hc2 hz2 => ?_)
  refine TL.box rfl rfl (fun w3 hb3 hc3 hz3 => ?_)
  refine TL.assign rfl rfl ?_
  refine TL.done ?_
  refine Thn.go ?_
  refine TC.seq ?_
  refine TC.block ?_
  refine TC.seq ?_
  refine TC.region ?_
  refine TL.loadAgg (cl a) ag30 rfl rfl (fun j _ => by rw [(hb2.ch0 hc3).cell, Nat.zero_add]; simp [Value.cells]) rfl ?_
  refine TL.loadAgg (cl b) ag30 rfl rfl (fun j _ => by rw [hb3.cell, Nat.zero_add]; simp [Value.cells]) rfl ?_
  refine TL.call can35 rfl rfl (fn35 a b w3) (fun v8 w8 hr8 => ?_)
  obtain ⟨rfl, hc8⟩ := hr8
  refine TL.assign rfl rfl ?_
  refine TL.done ?_
  refine Thn.go ?_
  refine TC.condP rfl (fun h1 => ?_) (fun h1 => ?_)
  ·
    have h1 : En.less a b := by assumption
    refine TC.seq ?_
    refine TC.region ?_
    refine TL.assign rfl rfl ?_
    refine TL.done ?_
    refine Thn.go ?_
    refine TC.ret ?_
    refine Blk.ret ?_
    refine Thn.ret ?_
    refine Ends.ret [4] rfl rfl ?_
    exact ⟨by rw [En.cmpE, if_pos h1]; rfl, hc2.trans0 (hc3.trans0 hc8)⟩
  ·
    have h1 : ¬ En.less a b := by assumption
    refine TC.seq ?_
    refine TC.region ?_
    refine TL.loadAgg (cl b) ag30 rfl rfl (fun j _ => by rw [(hb3.ch0 hc8).cell, Nat.zero_add]; simp [Value.cells]) rfl ?_
    refine TL.loadAgg (cl a) ag30 rfl rfl (fun j _ => by rw [((hb2.ch0 hc3).ch0 hc8).cell, Nat.zero_add]; simp [Value.cells]) rfl ?_
    refine TL.call can35 rfl rfl (fn35 b a w8) (fun v12 w12 hr12 => ?_)
    obtain ⟨rfl, hc12⟩ := hr12
    refine TL.assign rfl rfl ?_
    refine TL.done ?_
    refine Thn.go ?_
    refine TC.condP rfl (fun h2 => ?_) (fun h2 => ?_)
    ·
      refine TC.seq ?_
      refine TC.region ?_
      refine TL.assign rfl rfl ?_
      refine TL.done ?_
      refine Thn.go ?_
      refine TC.ret ?_
      refine Blk.ret ?_
      refine Thn.ret ?_
      refine Ends.ret [4] rfl rfl ?_
      exact ⟨by rw [En.cmpE, if_neg h1, if_pos (by assumption)]; rfl, hc2.trans0 (hc3.trans0 (hc8.trans0 hc12))⟩
    ·
      refine TC.skip ?_
      refine Blk.go ?_
      refine Thn.go ?_
      refine TC.seq ?_
      refine TC.region ?_
      refine TL.assign rfl rfl ?_
      refine TL.done ?_
      refine Thn.go ?_
      refine TC.ret ?_
      refine Ends.ret [4] rfl rfl ?_
      exact ⟨by rw [En.cmpE, if_neg h1, if_neg (by assumption)]; rfl, hc2.trans0 (hc3.trans0 (hc8.trans0 hc12))⟩

theorem fn30 (k : List UInt8) (q : Int) (w : World) : Rets Try.prog 30 #[str k, .int .i64 q] w (fun v w' => v = .int .i64 (En.askE k q : Int) ∧ w' = w) := by
  refine Rets.of (n := 20) (vs := [_, _]) Try.func30 rfl rfl rfl ?_
  refine TC.seq ?_
  refine TC.region ?_
  refine TL.assign rfl rfl ?_
  refine TL.done ?_
  refine Thn.go ?_
  refine TC.seq ?_
  refine TC.block ?_
  refine TC.regionBool (d := 5) (p := (k.length < 1 ∨ 256 < k.length)) (fun K1 hK1 => ?_) ?_
  ·
    refine TL.move rfl rfl ?_
    refine TL.eqlStr rfl rfl rfl ?_
    refine TL.em (fun e7 => ?_) (fun e7 => ?_)
    ·
      refine TL.move rfl rfl ?_
      refine TL.guardNo (d := 8) rfl rfl rfl rfl rfl ?_
      refine TL.guardNo (d := 8) rfl rfl rfl rfl rfl ?_
      refine TL.guardNo (d := 8) rfl rfl rfl rfl rfl ?_
      refine TL.pickT rfl rfl rfl rfl ?_
      refine TL.assign rfl rfl ?_
      refine TL.done ?_
      refine hK1 _ ?_
      refine Le.here rfl (by first | exact decide_eq_true (by grind) | exact decide_eq_false (by grind) | exact decide_eq_decide.2 (by grind)) ?_
      repeat (first | exact Le.refl _ | refine Le.skip rfl ?_)
    ·
      refine TL.move rfl rfl ?_
      refine TL.guardYes (d := 8) rfl rfl rfl ?_
      refine TL.move rfl rfl ?_
      refine TL.guardYes (d := 8) rfl rfl rfl ?_
      refine TL.lenStr Try.underlying9 rfl rfl ?_
      refine TL.guardYes (d := 8) rfl rfl rfl ?_
      refine TL.gtr rfl rfl rfl ?_
      refine TL.pickF rfl rfl rfl rfl ?_
      refine TL.assign rfl rfl ?_
      refine TL.done ?_
      refine hK1 _ ?_
      refine Le.here rfl (by first | exact decide_eq_true (by grind) | exact decide_eq_false (by grind) | exact decide_eq_decide.2 (by grind)) ?_
      repeat (first | exact Le.refl _ | refine Le.skip rfl ?_)
  refine TC.condP rfl (fun h3 => ?_) (fun h3 => ?_)
  ·
    refine TC.seq ?_
    refine TC.region ?_
    refine TL.assign rfl rfl ?_
    refine TL.done ?_
    refine Thn.go ?_
    refine TC.ret ?_
    refine Blk.ret ?_
    refine Thn.ret ?_
    refine Ends.ret [4] rfl rfl ?_
    exact ⟨by rw [En.ask_key (by assumption)]; rfl, rfl⟩
  ·
    refine TC.regionBool (d := 13) (p := (q < 0 ∨ 2147483647 < q)) (fun K4 hK4 => ?_) ?_
    ·
      refine TL.move rfl rfl ?_
      refine TL.lss rfl rfl rfl ?_
      refine TL.em (fun e15 => ?_) (fun e15 => ?_)
      ·
        refine TL.move rfl rfl ?_
        refine TL.guardNo (d := 16) rfl rfl rfl rfl rfl ?_
        refine TL.guardNo (d := 16) rfl rfl rfl rfl rfl ?_
        refine TL.pickT rfl rfl rfl rfl ?_
        refine TL.assign rfl rfl ?_
        refine TL.done ?_
        refine hK4 _ ?_
        refine Le.here rfl (by first | exact decide_eq_true (by omega) | exact decide_eq_false (by omega) | exact decide_eq_decide.2 (by omega) | exact decide_eq_true (by grind) | exact decide_eq_false (by grind) | exact decide_eq_decide.2 (by grind)) ?_
        repeat (first | exact Le.refl _ | refine Le.skip rfl ?_)
      ·
        refine TL.move rfl rfl ?_
        refine TL.guardYes (d := 16) rfl rfl rfl ?_
        refine TL.move rfl rfl ?_
        refine TL.guardYes (d := 16) rfl rfl rfl ?_
        refine TL.gtr rfl rfl rfl ?_
        refine TL.pickF rfl rfl rfl rfl ?_
        refine TL.assign rfl rfl ?_
        refine TL.done ?_
        refine hK4 _ ?_
        refine Le.here rfl (by first | exact decide_eq_true (by omega) | exact decide_eq_false (by omega) | exact decide_eq_decide.2 (by omega) | exact decide_eq_true (by grind) | exact decide_eq_false (by grind) | exact decide_eq_decide.2 (by grind)) ?_
        repeat (first | exact Le.refl _ | refine Le.skip rfl ?_)
    refine TC.condP rfl (fun h6 => ?_) (fun h6 => ?_)
    ·
      refine TC.seq ?_
      refine TC.region ?_
      refine TL.assign rfl rfl ?_
      refine TL.done ?_
      refine Thn.go ?_
      refine TC.ret ?_
      refine Blk.ret ?_
      refine Thn.ret ?_
      refine Ends.ret [4] rfl rfl ?_
      exact ⟨by rw [En.ask_arg (by assumption) (by assumption)]; rfl, rfl⟩
    ·
      refine TC.skip ?_
      refine Blk.go ?_
      refine Thn.go ?_
      refine TC.seq ?_
      refine TC.region ?_
      refine TL.assign rfl rfl ?_
      refine TL.done ?_
      refine Thn.go ?_
      refine TC.ret ?_
      refine Ends.ret [4] rfl rfl ?_
      exact ⟨by rw [En.ask_ok (by assumption) (by assumption)]; rfl, rfl⟩

