/-
  Walks through the given program: each theorem fnN says what the call of function N of the translation hands back, for all arguments that its premises describe, and that nothing that was there has turned.
-/
import Derived.Test.YtkgckmdhlokjmaaDoorB8
namespace Go.Proofs.YtkgckmdhlokjmaaDoor
open Go.Lane
open Go.Key
open Go.RowKit (Below)


theorem fn3 (av bv : Value) (l m : List Part) (w : World) (h : Sh w) (hi : ∀ p ∈ l, inI p.int) (hj : ∀ p ∈ m, inI p.int) (ha : Rd w av 3 l.length (l.flatMap cl)) (hb : Rd w bv 3 m.length (m.flatMap cl)) : Rets Tryd.prog 3 #[av, bv] w (fun v w' => v = .bool true ∧ Ch [] w w') := by
  obtain ⟨ad, ac, rfl, _⟩ := ha.shape
  obtain ⟨bd, bc, rfl, _⟩ := hb.shape
  have hmm : maxLen = 9223372036854775807 := rfl
  refine Rets.of (n := 67) (vs := [_, _]) Tryd.func3 rfl rfl rfl ?_
  refine TC.seq ?_
  refine TC.region ?_
  refine TL.assign rfl rfl ?_
  refine TL.done ?_
  refine Thn.go ?_
  refine TC.seq ?_
  refine TC.region ?_
  refine TL.call can9 rfl rfl (fn9 w h) (fun v10 w10 hr10 => ?_)
  obtain ⟨rfl, hc10⟩ := hr10
  refine TL.assign rfl rfl ?_
  refine TL.done ?_
  refine Thn.go ?_
  refine TC.seq ?_
  refine TC.seq ?_
  refine TC.region ?_
  refine TL.move rfl rfl ?_
  refine TL.not rfl rfl ?_
  refine TL.done ?_
  refine Thn.go ?_
  refine TC.condF rfl rfl ?_
  refine TC.skip ?_
  refine Thn.go ?_
  refine TC.seq ?_
  refine TC.regionBool (d := 20) (p := (100 < l.length ∨ 100 < m.length)) (fun K2 hK2 => ?_) ?_
  ·
    refine TL.move rfl rfl ?_
    refine TL.lenSlice Tryd.underlying22 rfl rfl ?_
    refine TL.gtr rfl rfl rfl ?_
    refine TL.em (fun e15 => ?_) (fun e15 => ?_)
    ·
      refine TL.move rfl rfl ?_
      refine TL.guardNo (d := 16) rfl rfl rfl rfl rfl ?_
      refine TL.guardNo (d := 16) rfl rfl rfl rfl rfl ?_
      refine TL.guardNo (d := 16) rfl rfl rfl rfl rfl ?_
      refine TL.pickT rfl rfl rfl rfl ?_
      refine TL.done ?_
      refine hK2 _ ?_
      refine Le.here rfl (by first | exact decide_eq_true (by omega) | exact decide_eq_false (by omega) | exact decide_eq_decide.2 (by omega) | exact decide_eq_true (by grind) | exact decide_eq_false (by grind) | exact decide_eq_decide.2 (by grind)) ?_
      repeat (first | exact Le.refl _ | refine Le.skip rfl ?_)
    ·
      refine TL.move rfl rfl ?_
      refine TL.guardYes (d := 16) rfl rfl rfl ?_
      refine TL.move rfl rfl ?_
      refine TL.guardYes (d := 16) rfl rfl rfl ?_
      refine TL.lenSlice Tryd.underlying22 rfl rfl ?_
      refine TL.guardYes (d := 16) rfl rfl rfl ?_
      refine TL.gtr rfl rfl rfl ?_
      refine TL.pickF rfl rfl rfl rfl ?_
      refine TL.done ?_
      refine hK2 _ ?_
      refine Le.here rfl (by first | exact decide_eq_true (by omega) | exact decide_eq_false (by omega) | exact decide_eq_decide.2 (by omega) | exact decide_eq_true (by grind) | exact decide_eq_false (by grind) | exact decide_eq_decide.2 (by grind)) ?_
      repeat (first | exact Le.refl _ | refine Le.skip rfl ?_)
  refine TC.condP rfl (fun h4 => ?_) (fun h4 => ?_)
  ·
    refine TC.seq ?_
    refine TC.region ?_
    refine TL.move rfl rfl ?_
    refine TL.assign rfl rfl ?_
    refine TL.done ?_
    refine Thn.go ?_
    refine TC.ret ?_
    refine Thn.ret ?_
    refine Ends.ret [4] rfl rfl ?_
    exact ⟨rfl, hc10⟩
  ·
    refine TC.skip ?_
    refine Thn.go ?_
    refine TC.seq ?_
    refine TC.region ?_
    refine TL.move rfl rfl ?_
    refine TL.call can10 rfl rfl (fn10 _ l w10 (h.ch0 hc10) hi (ha.ch0 hc10)) (fun v24 w24 hr24 => ?_)
    obtain ⟨rfl, hc24⟩ := hr24
    have q24 := hc10.trans0 hc24
    refine TL.move rfl rfl ?_
    refine TL.extract rfl rfl rfl ?_
    refine TL.extract rfl rfl rfl ?_
    refine TL.assign rfl rfl ?_
    refine TL.assign rfl rfl ?_
    refine TL.done ?_
    refine Thn.go ?_
    refine TC.seq ?_
    refine TC.region ?_
    refine TL.move rfl rfl ?_
    refine TL.call can10 rfl rfl (fn10 _ m w24 (h.ch0 q24) hj (hb.ch0 q24)) (fun v29 w29 hr29 => ?_)
    obtain ⟨rfl, hc29⟩ := hr29
    have q29 := q24.trans0 hc29
    refine TL.move rfl rfl ?_
    refine TL.extract rfl rfl rfl ?_
    refine TL.extract rfl rfl rfl ?_
    refine TL.assign rfl rfl ?_
    refine TL.assign rfl rfl ?_
    refine TL.done ?_
    refine Thn.go ?_
    refine TC.seq ?_
    refine TC.regionBool (d := 37) (p := (makeE l ≠ 0 ∨ makeE m ≠ 0)) (fun K5 hK5 => ?_) ?_
    ·
      refine TL.move rfl rfl ?_
      refine TL.neq rfl rfl rfl ?_
      refine TL.em (fun e33 => ?_) (fun e33 => ?_)
      ·
        refine TL.move rfl rfl ?_
        refine TL.guardNo (d := 34) rfl rfl rfl rfl rfl ?_
        refine TL.guardNo (d := 34) rfl rfl rfl rfl rfl ?_
        refine TL.pickT rfl rfl rfl rfl ?_
        refine TL.done ?_
        refine hK5 _ ?_
        refine Le.here rfl (by first | exact decide_eq_true (by omega) | exact decide_eq_false (by omega) | exact decide_eq_decide.2 (by omega) | exact decide_eq_true (by grind) | exact decide_eq_false (by grind) | exact decide_eq_decide.2 (by grind)) ?_
        repeat (first | exact Le.refl _ | refine Le.skip rfl ?_)
      ·
        refine TL.move rfl rfl ?_
        refine TL.guardYes (d := 34) rfl rfl rfl ?_
        refine TL.move rfl rfl ?_
        refine TL.guardYes (d := 34) rfl rfl rfl ?_
        refine TL.neq rfl rfl rfl ?_
        refine TL.pickF rfl rfl rfl rfl ?_
        refine TL.done ?_
        refine hK5 _ ?_
        refine Le.here rfl (by first | exact decide_eq_true (by omega) | exact decide_eq_false (by omega) | exact decide_eq_decide.2 (by omega) | exact decide_eq_true (by grind) | exact decide_eq_false (by grind) | exact decide_eq_decide.2 (by grind)) ?_
        repeat (first | exact Le.refl _ | refine Le.skip rfl ?_)
    refine TC.condP rfl (fun h7 => ?_) (fun h7 => ?_)
    ·
      refine TC.seq ?_
      refine TC.region ?_
      refine TL.move rfl rfl ?_
      refine TL.assign rfl rfl ?_
      refine TL.done ?_
      refine Thn.go ?_
      refine TC.ret ?_
      refine Thn.ret ?_
      refine Ends.ret [4] rfl rfl ?_
      exact ⟨rfl, q29⟩
    ·
      have hel : makeE l = 0 := by omega
      have hem : makeE m = 0 := by omega
      obtain ⟨gl, sl, _, _⟩ := good_of hi hel
      obtain ⟨gm, sm, _, _⟩ := good_of hj hem
      have k1 : decide (cmpL l m < 0) = Op.bytesLess (makeS l) (makeS m) := by rw [sl, sm, Bool.eq_iff_iff, decide_eq_true_iff, cmpL_neg, bl_key l m gl gm]
      have k2 : decide (cmpL m l < 0) = Op.bytesLess (makeS m) (makeS l) := by rw [sl, sm, Bool.eq_iff_iff, decide_eq_true_iff, cmpL_neg, bl_key m l gm gl]
      have k3 : decide (l = m) = decide (makeS l = makeS m) := by rw [sl, sm, decide_eq_decide, key_inj gl gm]
      refine TC.skip ?_
      refine Thn.go ?_
      refine TC.seq ?_
      refine TC.region ?_
      refine TL.move rfl rfl ?_
      refine TL.move rfl rfl ?_
      refine TL.guardYes (d := 40) rfl rfl rfl ?_
      refine TL.move rfl rfl ?_
      refine TL.guardYes (d := 40) rfl rfl rfl ?_
      refine TL.move rfl rfl ?_
      refine TL.guardYes (d := 40) rfl rfl rfl ?_
      refine TL.call can11 rfl rfl (fn11 _ _ l m w29 (ha.ch0 q29) (hb.ch0 q29)) (fun v43 w43 hr43 => ?_)
      obtain ⟨rfl, hc43⟩ := hr43
      refine TL.guardYes (d := 40) rfl rfl rfl ?_
      refine TL.move rfl rfl ?_
      refine TL.guardYes (d := 40) rfl rfl rfl ?_
      refine TL.move rfl rfl ?_
      refine TL.guardYes (d := 40) rfl rfl rfl ?_
      refine TL.lssStr rfl rfl rfl ?_
      refine TL.guardYes (d := 40) rfl rfl rfl ?_
      refine TL.eqlBool Tryd.underlying4 rfl rfl rfl ?_
      refine TL.yes (k1) ?_
      refine TL.pickT rfl rfl rfl rfl ?_
      refine TL.move rfl rfl ?_
      refine TL.guardYes (d := 49) rfl rfl rfl ?_
      refine TL.move rfl rfl ?_
      refine TL.guardYes (d := 49) rfl rfl rfl ?_
      refine TL.move rfl rfl ?_
      refine TL.guardYes (d := 49) rfl rfl rfl ?_
      refine TL.call can11 rfl rfl (fn11 _ _ m l w43 (hb.ch0 (q29.trans0 hc43)) (ha.ch0 (q29.trans0 hc43))) (fun v52 w52 hr52 => ?_)
      obtain ⟨rfl, hc52⟩ := hr52
      have q52 := (q29.trans0 hc43).trans0 hc52
      refine TL.guardYes (d := 49) rfl rfl rfl ?_
      refine TL.move rfl rfl ?_
      refine TL.guardYes (d := 49) rfl rfl rfl ?_
      refine TL.move rfl rfl ?_
      refine TL.guardYes (d := 49) rfl rfl rfl ?_
      refine TL.lssStr rfl rfl rfl ?_
      refine TL.guardYes (d := 49) rfl rfl rfl ?_
      refine TL.eqlBool Tryd.underlying4 rfl rfl rfl ?_
      refine TL.yes (k2) ?_
      refine TL.pickT rfl rfl rfl rfl ?_
      refine TL.move rfl rfl ?_
      refine TL.guardYes (d := 58) rfl rfl rfl ?_
      refine TL.move rfl rfl ?_
      refine TL.guardYes (d := 58) rfl rfl rfl ?_
      refine TL.move rfl rfl ?_
      refine TL.guardYes (d := 58) rfl rfl rfl ?_
      refine TL.call can12 rfl rfl (fn12 _ _ l m w52 (ha.ch0 q52) (hb.ch0 q52)) (fun v61 w61 hr61 => ?_)
      obtain ⟨rfl, hc61⟩ := hr61
      refine TL.guardYes (d := 58) rfl rfl rfl ?_
      refine TL.move rfl rfl ?_
      refine TL.guardYes (d := 58) rfl rfl rfl ?_
      refine TL.move rfl rfl ?_
      refine TL.guardYes (d := 58) rfl rfl rfl ?_
      refine TL.eqlStr rfl rfl rfl ?_
      refine TL.guardYes (d := 58) rfl rfl rfl ?_
      refine TL.eqlBool Tryd.underlying4 rfl rfl rfl ?_
      refine TL.yes (k3) ?_
      refine TL.pickT rfl rfl rfl rfl ?_
      refine TL.assign rfl rfl ?_
      refine TL.done ?_
      refine Thn.go ?_
      refine TC.ret ?_
      refine Ends.ret [4] rfl rfl ?_
      exact ⟨rfl, q52.trans0 hc61⟩

