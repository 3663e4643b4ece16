/-
  Walks through the given program: each theorem fnN says what the call of function N of the translation hands back, for all arguments that its premises describe, and that nothing that was there has turned.
-/
import Derived.Test.YtkgckmdhlokjmaaDoorB8
namespace Go.Proofs.YtkgckmdhlokjmaaDoor
open Go.Lane
open Go.Key
open Go.RowKit (Below)


theorem fn6 (av : Value) (l : List Part) (s : List UInt8) (w : World) (h : Sh w) (hi : ∀ p ∈ l, inI p.int) (ha : Rd w av 3 l.length (l.flatMap cl)) : Rets Tryd.prog 6 #[av, str s] w (fun v w' => v = .bool true ∧ Ch [] w w') := by
  obtain ⟨ad, ac, rfl, _⟩ := ha.shape
  have hmm : maxLen = 9223372036854775807 := rfl
  refine Rets.of (n := 74) (vs := [_, _]) Tryd.func6 rfl rfl rfl ?_
  refine TC.seq ?_
  refine TC.region ?_
  refine TL.assign rfl rfl ?_
  refine TL.done ?_
  refine Thn.go ?_
  refine TC.seq ?_
  refine TC.region ?_
  refine TL.call can9 rfl rfl (fn9 w h) (fun v14 w14 hr14 => ?_)
  obtain ⟨rfl, hc14⟩ := hr14
  refine TL.assign rfl rfl ?_
  refine TL.done ?_
  refine Thn.go ?_
  refine TC.seq ?_
  refine TC.seq ?_
  refine TC.region ?_
  refine TL.move rfl rfl ?_
  refine TL.not rfl rfl ?_
  refine TL.done ?_
  refine Thn.go ?_
  refine TC.condF rfl rfl ?_
  refine TC.skip ?_
  refine Thn.go ?_
  refine TC.seq ?_
  refine TC.regionBool (d := 24) (p := (100 < l.length ∨ 10000 < s.length)) (fun K2 hK2 => ?_) ?_
  ·
    refine TL.move rfl rfl ?_
    refine TL.lenSlice Tryd.underlying22 rfl rfl ?_
    refine TL.gtr rfl rfl rfl ?_
    refine TL.em (fun e19 => ?_) (fun e19 => ?_)
    ·
      refine TL.move rfl rfl ?_
      refine TL.guardNo (d := 20) rfl rfl rfl rfl rfl ?_
      refine TL.guardNo (d := 20) rfl rfl rfl rfl rfl ?_
      refine TL.guardNo (d := 20) rfl rfl rfl rfl rfl ?_
      refine TL.pickT rfl rfl rfl rfl ?_
      refine TL.done ?_
      refine hK2 _ ?_
      refine Le.here rfl (by first | exact decide_eq_true (by omega) | exact decide_eq_false (by omega) | exact decide_eq_decide.2 (by omega) | exact decide_eq_true (by grind) | exact decide_eq_false (by grind) | exact decide_eq_decide.2 (by grind)) ?_
      repeat (first | exact Le.refl _ | refine Le.skip rfl ?_)
    ·
      refine TL.move rfl rfl ?_
      refine TL.guardYes (d := 20) rfl rfl rfl ?_
      refine TL.move rfl rfl ?_
      refine TL.guardYes (d := 20) rfl rfl rfl ?_
      refine TL.lenStr Tryd.underlying9 rfl rfl ?_
      refine TL.guardYes (d := 20) rfl rfl rfl ?_
      refine TL.gtr rfl rfl rfl ?_
      refine TL.pickF rfl rfl rfl rfl ?_
      refine TL.done ?_
      refine hK2 _ ?_
      refine Le.here rfl (by first | exact decide_eq_true (by omega) | exact decide_eq_false (by omega) | exact decide_eq_decide.2 (by omega) | exact decide_eq_true (by grind) | exact decide_eq_false (by grind) | exact decide_eq_decide.2 (by grind)) ?_
      repeat (first | exact Le.refl _ | refine Le.skip rfl ?_)
  refine TC.condP rfl (fun h4 => ?_) (fun h4 => ?_)
  ·
    refine TC.seq ?_
    refine TC.region ?_
    refine TL.move rfl rfl ?_
    refine TL.assign rfl rfl ?_
    refine TL.done ?_
    refine Thn.go ?_
    refine TC.ret ?_
    refine Thn.ret ?_
    refine Ends.ret [4] rfl rfl ?_
    exact ⟨rfl, hc14⟩
  ·
    have hs : s.length ≤ 10000 := by omega
    refine TC.skip ?_
    refine Thn.go ?_
    refine TC.seq ?_
    refine TC.region ?_
    refine TL.move rfl rfl ?_
    refine TL.call can10 rfl rfl (fn10 _ l w14 (h.ch0 hc14) hi (ha.ch0 hc14)) (fun v28 w28 hr28 => ?_)
    obtain ⟨rfl, hc28⟩ := hr28
    have q28 := hc14.trans0 hc28
    refine TL.move rfl rfl ?_
    refine TL.extract rfl rfl rfl ?_
    refine TL.extract rfl rfl rfl ?_
    refine TL.assign rfl rfl ?_
    refine TL.assign rfl rfl ?_
    refine TL.done ?_
    refine Thn.go ?_
    refine TC.cut0 ([(1, str s), (5, .bool true)]) (fun w2 => Ch [] w w2) (fun K5 hK5 => ?_) (fun w2 hH => ?_)
    ·
      refine TC.seq ?_
      refine TC.region ?_
      refine TL.move rfl rfl ?_
      refine TL.eql rfl rfl rfl ?_
      refine TL.done ?_
      refine Thn.go ?_
      refine TC.condP rfl (fun h6 => ?_) (fun h6 => ?_)
      ·
        have hel : makeE l = 0 := by omega
        obtain ⟨k1, k2⟩ := cut_made hi hel
        obtain ⟨gl, sl, _, hl256⟩ := good_of hi hel
        refine TC.seq ?_
        refine TC.region ?_
        refine TL.move rfl rfl ?_
        refine TL.call can16 rfl rfl (fn16 (makeS l) (by rw [sl]; omega) w28 (h.ch0 q28)) (fun v35 w35 hr35 => ?_)
        rw [k1, k2] at hr35
        obtain ⟨o, rfl, ho35, hc35⟩ := hr35
        refine TL.move rfl rfl ?_
        refine TL.extract rfl rfl rfl ?_
        refine TL.extract rfl rfl rfl ?_
        refine TL.assign rfl rfl ?_
        refine TL.assign rfl rfl ?_
        refine TL.done ?_
        refine Thn.go ?_
        refine TC.seq ?_
        refine TC.region ?_
        refine TL.move rfl rfl ?_
        refine TL.neq rfl rfl rfl ?_
        refine TL.no (by decide) ?_
        refine TL.move rfl rfl ?_
        refine TL.guardYes (d := 40) rfl rfl rfl ?_
        refine TL.move rfl rfl ?_
        refine TL.guardYes (d := 40) rfl rfl rfl ?_
        refine TL.move rfl rfl ?_
        refine TL.guardYes (d := 40) rfl rfl rfl ?_
        refine TL.call can12 rfl rfl (fn12 _ _ l l w35 (ha.ch0 (q28.trans0 hc35)) (Rd.ofOwn ho35)) (fun v43 w43 hr43 => ?_)
        rw [decide_eq_true rfl] at hr43
        obtain ⟨rfl, hc43⟩ := hr43
        refine TL.guardYes (d := 40) rfl rfl rfl ?_
        refine TL.not rfl rfl ?_
        refine TL.pickF rfl rfl rfl rfl ?_
        refine TL.done ?_
        refine Thn.go ?_
        refine TC.condF rfl rfl ?_
        refine TC.skip ?_
        exact hK5  _ _ (by repeat (first | exact trivial | refine ⟨rfl, ?_⟩ | refine ⟨congrArg (fun b => some (Value.bool b)) (by first | exact (decide_eq_true (by grind)).symm | exact (decide_eq_false (by grind)).symm | exact decide_eq_decide.2 (by grind) | exact decide_eq_true (by grind) | exact decide_eq_false (by grind) | (exfalso; grind)), ?_⟩)) ((q28.trans0 hc35).trans0 hc43)
      ·
        refine TC.skip ?_
        exact hK5  _ _ (by repeat (first | exact trivial | refine ⟨rfl, ?_⟩ | refine ⟨congrArg (fun b => some (Value.bool b)) (by first | exact (decide_eq_true (by grind)).symm | exact (decide_eq_false (by grind)).symm | exact decide_eq_decide.2 (by grind) | exact decide_eq_true (by grind) | exact decide_eq_false (by grind) | (exfalso; grind)), ?_⟩)) (q28)
    ·
      refine TC.seq ?_
      refine TC.region ?_
      refine TL.move rfl rfl ?_
      refine TL.call can16 rfl rfl (fn16 s (by omega) w2 (h.ch0 hH)) (fun v48 w48 hr48 => ?_)
      obtain ⟨o, rfl, ho48, hc48⟩ := hr48
      have q48 := hH.trans0 hc48
      obtain ⟨od, oc, rfl, _⟩ := ho48.shape
      refine TL.move rfl rfl ?_
      refine TL.extract rfl rfl rfl ?_
      refine TL.extract rfl rfl rfl ?_
      refine TL.assign rfl rfl ?_
      refine TL.assign rfl rfl ?_
      refine TL.done ?_
      refine Thn.go ?_
      refine TC.seq ?_
      refine TC.seq ?_
      refine TC.region ?_
      refine TL.move rfl rfl ?_
      refine TL.neq rfl rfl rfl ?_
      refine TL.done ?_
      refine Thn.go ?_
      refine TC.condP rfl (fun h8 => ?_) (fun h8 => ?_)
      ·
        have hcn := cut_none (show ¬ cutE s = 0 by omega)
        refine TC.seq ?_
        refine TC.region ?_
        refine TL.move rfl rfl ?_
        refine TL.move rfl rfl ?_
        refine TL.guardYes (d := 54) rfl rfl rfl ?_
        refine TL.move rfl rfl ?_
        refine TL.guardYes (d := 54) rfl rfl rfl ?_
        refine TL.lenSlice Tryd.underlying22 rfl rfl ?_
        refine TL.guardYes (d := 54) rfl rfl rfl ?_
        refine TL.eql rfl rfl rfl ?_
        refine TL.yes (by rw [hcn]; rfl) ?_
        refine TL.pickT rfl rfl rfl rfl ?_
        refine TL.assign rfl rfl ?_
        refine TL.done ?_
        refine Thn.go ?_
        refine TC.ret ?_
        refine Thn.ret ?_
        refine Ends.ret [4] rfl rfl ?_
        exact ⟨rfl, q48⟩
      ·
        obtain ⟨k3, k4, k5⟩ := made_cut (show cutE s = 0 by omega)
        refine TC.skip ?_
        refine Thn.go ?_
        refine TC.seq ?_
        refine TC.region ?_
        refine TL.move rfl rfl ?_
        refine TL.call can10 rfl rfl (fn10 _ (cutL s) w48 (h.ch0 q48) (fun p hp => (k5 p hp).2) (Rd.ofOwn ho48)) (fun v61 w61 hr61 => ?_)
        rw [k3, k4] at hr61
        obtain ⟨rfl, hc61⟩ := hr61
        refine TL.move rfl rfl ?_
        refine TL.extract rfl rfl rfl ?_
        refine TL.extract rfl rfl rfl ?_
        refine TL.assign rfl rfl ?_
        refine TL.assign rfl rfl ?_
        refine TL.done ?_
        refine Thn.go ?_
        refine TC.seq ?_
        refine TC.region ?_
        refine TL.move rfl rfl ?_
        refine TL.move rfl rfl ?_
        refine TL.guardYes (d := 65) rfl rfl rfl ?_
        refine TL.move rfl rfl ?_
        refine TL.guardYes (d := 65) rfl rfl rfl ?_
        refine TL.eql rfl rfl rfl ?_
        refine TL.yes (rfl) ?_
        refine TL.pickT rfl rfl rfl rfl ?_
        refine TL.move rfl rfl ?_
        refine TL.guardYes (d := 69) rfl rfl rfl ?_
        refine TL.move rfl rfl ?_
        refine TL.guardYes (d := 69) rfl rfl rfl ?_
        refine TL.move rfl rfl ?_
        refine TL.guardYes (d := 69) rfl rfl rfl ?_
        refine TL.eqlStr rfl rfl rfl ?_
        refine TL.yes (rfl) ?_
        refine TL.pickT rfl rfl rfl rfl ?_
        refine TL.assign rfl rfl ?_
        refine TL.done ?_
        refine Thn.go ?_
        refine TC.ret ?_
        refine Ends.ret [4] rfl rfl ?_
        exact ⟨rfl, q48.trans0 hc61⟩

