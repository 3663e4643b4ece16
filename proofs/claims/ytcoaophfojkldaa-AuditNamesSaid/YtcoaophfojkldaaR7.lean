/-
  Walks through the given program: each theorem fnN says what the call of function N of the translation hands back, for all arguments that its premises describe, and that nothing that was there has turned.
-/
import Derived.Test.YtcoaophfojkldaaR6
namespace Go.Proofs.Ytcoaophfojkldaa
open Go.Lane
theorem gd48 : Try.prog.eqGuardType Try.prog.depth 48 = false := by kernel_rfl
theorem eq48 (x y : List UInt8) (hx : x.length = 32) (hy : y.length = 32) (w : World) : (Op.equalIn 10000 48 (.agg (x.map u8).toArray) (.agg (y.map u8).toArray)).run Try.prog w = .ok (decide (x = y)) w :=
  run_equalIn_arr u8 (dep := 9998) Try.underlying48 (by kernel_rfl) (by kernel_rfl) ⟨_, Try.underlying5, rfl⟩ (fun a b => eq_u8 Try.underlying5 9998 a b) x y hx hy

theorem fn7 (a : Value) (l : List Audit.Record) (t : Int) (u d : List UInt8) (o : Int) (ix : Int) (w : World) (ha : Rd w a 6 l.length (l.flatMap cl)) : Rets Try.prog 7 #[a, .int .i64 t, str u, str d, .int .i64 o, .int .i64 ix] w (fun v w' => v = .bool true ∧ Ch [] w w') := by
  obtain ⟨ad, c, rfl, _⟩ := ha.shape
  have hmm : maxLen = 9223372036854775807 := rfl
  have hmx : l.length ≤ 9223372036854775807 := ha.nlt
  refine Rets.of (n := 205) (vs := [_, _, _, _, _, _]) Try.func7 rfl rfl rfl ?_
  refine TC.seq ?_
  refine TC.region ?_
  refine TL.assign rfl rfl ?_
  refine TL.done ?_
  refine Thn.go ?_
  refine TC.seq ?_
  refine TC.region ?_
  refine TL.call can21 rfl rfl (fn21 w) (fun v28 w28 hr28 => ?_)
  obtain ⟨rfl, hc28⟩ := hr28
  refine TL.assign rfl rfl ?_
  refine TL.done ?_
  refine Thn.go ?_
  refine TC.seq ?_
  refine TC.cut0 ([(0, .slice ad l.length c), (1, .int .i64 t), (2, str u), (3, str d), (4, .int .i64 o), (5, .int .i64 ix), (13, .bool true), (75, .bool (decide (Audit.longP l ∨ 60 < l.length ∨ 32 < u.length ∨ 3000 < d.length ∨ ix < 0 ∨ (l.length : Int) ≤ ix ∨ o < 100 ∨ 599 < o ∨ t < 0 ∨ 1099511627776 < t)))]) (fun w2 => w2 = w28) (fun K1 hK1 => ?_) (fun w2 hH => ?_)
  ·
    refine TC.region ?_
    refine TL.move rfl rfl ?_
    refine TL.call can8 rfl rfl (fn8 _ l _ (ha.ch0 hc28)) (fun v30 w30 hr30 => ?_)
    obtain ⟨rfl, rfl⟩ := hr30
    refine TL.em (fun e30 => ?_) (fun e30 => ?_)
    ·
      refine TL.move rfl rfl ?_
      refine TL.guardNo (d := 31) rfl rfl rfl rfl rfl ?_
      refine TL.guardNo (d := 31) rfl rfl rfl rfl rfl ?_
      refine TL.guardNo (d := 31) rfl rfl rfl rfl rfl ?_
      refine TL.pickT rfl rfl rfl rfl ?_
      refine TL.move rfl rfl ?_
      refine TL.guardNo (d := 36) rfl rfl rfl rfl rfl ?_
      refine TL.guardNo (d := 36) rfl rfl rfl rfl rfl ?_
      refine TL.guardNo (d := 36) rfl rfl rfl rfl rfl ?_
      refine TL.pickT rfl rfl rfl rfl ?_
      refine TL.move rfl rfl ?_
      refine TL.guardNo (d := 41) rfl rfl rfl rfl rfl ?_
      refine TL.guardNo (d := 41) rfl rfl rfl rfl rfl ?_
      refine TL.guardNo (d := 41) rfl rfl rfl rfl rfl ?_
      refine TL.pickT rfl rfl rfl rfl ?_
      refine TL.move rfl rfl ?_
      refine TL.guardNo (d := 46) rfl rfl rfl rfl rfl ?_
      refine TL.guardNo (d := 46) rfl rfl rfl rfl rfl ?_
      refine TL.pickT rfl rfl rfl rfl ?_
      refine TL.move rfl rfl ?_
      refine TL.guardNo (d := 50) rfl rfl rfl rfl rfl ?_
      refine TL.guardNo (d := 50) rfl rfl rfl rfl rfl ?_
      refine TL.guardNo (d := 50) rfl rfl rfl rfl rfl ?_
      refine TL.guardNo (d := 50) rfl rfl rfl rfl rfl ?_
      refine TL.pickT rfl rfl rfl rfl ?_
      refine TL.move rfl rfl ?_
      refine TL.guardNo (d := 56) rfl rfl rfl rfl rfl ?_
      refine TL.guardNo (d := 56) rfl rfl rfl rfl rfl ?_
      refine TL.pickT rfl rfl rfl rfl ?_
      refine TL.move rfl rfl ?_
      refine TL.guardNo (d := 60) rfl rfl rfl rfl rfl ?_
      refine TL.guardNo (d := 60) rfl rfl rfl rfl rfl ?_
      refine TL.pickT rfl rfl rfl rfl ?_
      refine TL.move rfl rfl ?_
      refine TL.guardNo (d := 64) rfl rfl rfl rfl rfl ?_
      refine TL.guardNo (d := 64) rfl rfl rfl rfl rfl ?_
      refine TL.pickT rfl rfl rfl rfl ?_
      refine TL.move rfl rfl ?_
      refine TL.guardNo (d := 68) rfl rfl rfl rfl rfl ?_
      refine TL.guardNo (d := 68) rfl rfl rfl rfl rfl ?_
      refine TL.pickT rfl rfl rfl rfl ?_
      refine TL.move rfl rfl ?_
      refine TL.guardNo (d := 72) rfl rfl rfl rfl rfl ?_
      refine TL.guardNo (d := 72) rfl rfl rfl rfl rfl ?_
      refine TL.pickT rfl rfl rfl rfl ?_
      refine TL.done ?_
      exact hK1  _ _ (by repeat (first | exact trivial | refine ⟨rfl, ?_⟩ | refine ⟨congrArg (fun b => some (Value.bool b)) (by first | exact (decide_eq_true (by grind)).symm | exact (decide_eq_false (by grind)).symm | exact decide_eq_decide.2 (by grind) | exact decide_eq_true (by grind) | exact decide_eq_false (by grind) | (exfalso; grind)), ?_⟩)) (rfl)
    ·
      refine TL.move rfl rfl ?_
      refine TL.guardYes (d := 31) rfl rfl rfl ?_
      refine TL.move rfl rfl ?_
      refine TL.guardYes (d := 31) rfl rfl rfl ?_
      refine TL.lenSlice Try.underlying22 rfl rfl ?_
      refine TL.guardYes (d := 31) rfl rfl rfl ?_
      refine TL.gtr rfl rfl rfl ?_
      refine TL.em (fun e34 => ?_) (fun e34 => ?_)
      ·
        refine TL.pickF rfl rfl rfl rfl ?_
        refine TL.move rfl rfl ?_
        refine TL.guardNo (d := 36) rfl rfl rfl rfl rfl ?_
        refine TL.guardNo (d := 36) rfl rfl rfl rfl rfl ?_
        refine TL.guardNo (d := 36) rfl rfl rfl rfl rfl ?_
        refine TL.pickT rfl rfl rfl rfl ?_
        refine TL.move rfl rfl ?_
        refine TL.guardNo (d := 41) rfl rfl rfl rfl rfl ?_
        refine TL.guardNo (d := 41) rfl rfl rfl rfl rfl ?_
        refine TL.guardNo (d := 41) rfl rfl rfl rfl rfl ?_
        refine TL.pickT rfl rfl rfl rfl ?_
        refine TL.move rfl rfl ?_
        refine TL.guardNo (d := 46) rfl rfl rfl rfl rfl ?_
        refine TL.guardNo (d := 46) rfl rfl rfl rfl rfl ?_
        refine TL.pickT rfl rfl rfl rfl ?_
        refine TL.move rfl rfl ?_
        refine TL.guardNo (d := 50) rfl rfl rfl rfl rfl ?_
        refine TL.guardNo (d := 50) rfl rfl rfl rfl rfl ?_
        refine TL.guardNo (d := 50) rfl rfl rfl rfl rfl ?_
        refine TL.guardNo (d := 50) rfl rfl rfl rfl rfl ?_
        refine TL.pickT rfl rfl rfl rfl ?_
        refine TL.move rfl rfl ?_
        refine TL.guardNo (d := 56) rfl rfl rfl rfl rfl ?_
        refine TL.guardNo (d := 56) rfl rfl rfl rfl rfl ?_
        refine TL.pickT rfl rfl rfl rfl ?_
        refine TL.move rfl rfl ?_
        refine TL.guardNo (d := 60) rfl rfl rfl rfl rfl ?_
        refine TL.guardNo (d := 60) rfl rfl rfl rfl rfl ?_
        refine TL.pickT rfl rfl rfl rfl ?_
        refine TL.move rfl rfl ?_
        refine TL.guardNo (d := 64) rfl rfl rfl rfl rfl ?_
        refine TL.guardNo (d := 64) rfl rfl rfl rfl rfl ?_
        refine TL.pickT rfl rfl rfl rfl ?_
        refine TL.move rfl rfl ?_
        refine TL.guardNo (d := 68) rfl rfl rfl rfl rfl ?_
        refine TL.guardNo (d := 68) rfl rfl rfl rfl rfl ?_
        refine TL.pickT rfl rfl rfl rfl ?_
        refine TL.move rfl rfl ?_
        refine TL.guardNo (d := 72) rfl rfl rfl rfl rfl ?_
        refine TL.guardNo (d := 72) rfl rfl rfl rfl rfl ?_
        refine TL.pickT rfl rfl rfl rfl ?_
        refine TL.done ?_
        exact hK1  _ _ (by repeat (first | exact trivial | refine ⟨rfl, ?_⟩ | refine ⟨congrArg (fun b => some (Value.bool b)) (by first | exact (decide_eq_true (by grind)).symm | exact (decide_eq_false (by grind)).symm | exact decide_eq_decide.2 (by grind) | exact decide_eq_true (by grind) | exact decide_eq_false (by grind) | (exfalso; grind)), ?_⟩)) (rfl)
      ·
        refine TL.pickF rfl rfl rfl rfl ?_
        refine TL.move rfl rfl ?_
        refine TL.guardYes (d := 36) rfl rfl rfl ?_
        refine TL.move rfl rfl ?_
        refine TL.guardYes (d := 36) rfl rfl rfl ?_
        refine TL.lenStr Try.underlying9 rfl rfl ?_
        refine TL.guardYes (d := 36) rfl rfl rfl ?_
        refine TL.gtr rfl rfl rfl ?_
        refine TL.em (fun e39 => ?_) (fun e39 => ?_)
        ·
          refine TL.pickF rfl rfl rfl rfl ?_
          refine TL.move rfl rfl ?_
          refine TL.guardNo (d := 41) rfl rfl rfl rfl rfl ?_
          refine TL.guardNo (d := 41) rfl rfl rfl rfl rfl ?_
          refine TL.guardNo (d := 41) rfl rfl rfl rfl rfl ?_
          refine TL.pickT rfl rfl rfl rfl ?_
          refine TL.move rfl rfl ?_
          refine TL.guardNo (d := 46) rfl rfl rfl rfl rfl ?_
          refine TL.guardNo (d := 46) rfl rfl rfl rfl rfl ?_
          refine TL.pickT rfl rfl rfl rfl ?_
          refine TL.move rfl rfl ?_
          refine TL.guardNo (d := 50) rfl rfl rfl rfl rfl ?_
          refine TL.guardNo (d := 50) rfl rfl rfl rfl rfl ?_
          refine TL.guardNo (d := 50) rfl rfl rfl rfl rfl ?_
          refine TL.guardNo (d := 50) rfl rfl rfl rfl rfl ?_
          refine TL.pickT rfl rfl rfl rfl ?_
          refine TL.move rfl rfl ?_
          refine TL.guardNo (d := 56) rfl rfl rfl rfl rfl ?_
          refine TL.guardNo (d := 56) rfl rfl rfl rfl rfl ?_
          refine TL.pickT rfl rfl rfl rfl ?_
          refine TL.move rfl rfl ?_
          refine TL.guardNo (d := 60) rfl rfl rfl rfl rfl ?_
          refine TL.guardNo (d := 60) rfl rfl rfl rfl rfl ?_
          refine TL.pickT rfl rfl rfl rfl ?_
          refine TL.move rfl rfl ?_
          refine TL.guardNo (d := 64) rfl rfl rfl rfl rfl ?_
          refine TL.guardNo (d := 64) rfl rfl rfl rfl rfl ?_
          refine TL.pickT rfl rfl rfl rfl ?_
          refine TL.move rfl rfl ?_
          refine TL.guardNo (d := 68) rfl rfl rfl rfl rfl ?_
          refine TL.guardNo (d := 68) rfl rfl rfl rfl rfl ?_
          refine TL.pickT rfl rfl rfl rfl ?_
          refine TL.move rfl rfl ?_
          refine TL.guardNo (d := 72) rfl rfl rfl rfl rfl ?_
          refine TL.guardNo (d := 72) rfl rfl rfl rfl rfl ?_
          refine TL.pickT rfl rfl rfl rfl ?_
          refine TL.done ?_
          exact hK1  _ _ (by repeat (first | exact trivial | refine ⟨rfl, ?_⟩ | refine ⟨congrArg (fun b => some (Value.bool b)) (by first | exact (decide_eq_true (by grind)).symm | exact (decide_eq_false (by grind)).symm | exact decide_eq_decide.2 (by grind) | exact decide_eq_true (by grind) | exact decide_eq_false (by grind) | (exfalso; grind)), ?_⟩)) (rfl)
        ·
          refine TL.pickF rfl rfl rfl rfl ?_
          refine TL.move rfl rfl ?_
          refine TL.guardYes (d := 41) rfl rfl rfl ?_
          refine TL.move rfl rfl ?_
          refine TL.guardYes (d := 41) rfl rfl rfl ?_
          refine TL.lenStr Try.underlying9 rfl rfl ?_
          refine TL.guardYes (d := 41) rfl rfl rfl ?_
          refine TL.gtr rfl rfl rfl ?_
          refine TL.em (fun e44 => ?_) (fun e44 => ?_)
          ·
            refine TL.pickF rfl rfl rfl rfl ?_
            refine TL.move rfl rfl ?_
            refine TL.guardNo (d := 46) rfl rfl rfl rfl rfl ?_
            refine TL.guardNo (d := 46) rfl rfl rfl rfl rfl ?_
            refine TL.pickT rfl rfl rfl rfl ?_
            refine TL.move rfl rfl ?_
            refine TL.guardNo (d := 50) rfl rfl rfl rfl rfl ?_
            refine TL.guardNo (d := 50) rfl rfl rfl rfl rfl ?_
            refine TL.guardNo (d := 50) rfl rfl rfl rfl rfl ?_
            refine TL.guardNo (d := 50) rfl rfl rfl rfl rfl ?_
            refine TL.pickT rfl rfl rfl rfl ?_
            refine TL.move rfl rfl ?_
            refine TL.guardNo (d := 56) rfl rfl rfl rfl rfl ?_
            refine TL.guardNo (d := 56) rfl rfl rfl rfl rfl ?_
            refine TL.pickT rfl rfl rfl rfl ?_
            refine TL.move rfl rfl ?_
            refine TL.guardNo (d := 60) rfl rfl rfl rfl rfl ?_
            refine TL.guardNo (d := 60) rfl rfl rfl rfl rfl ?_
            refine TL.pickT rfl rfl rfl rfl ?_
            refine TL.move rfl rfl ?_
            refine TL.guardNo (d := 64) rfl rfl rfl rfl rfl ?_
            refine TL.guardNo (d := 64) rfl rfl rfl rfl rfl ?_
            refine TL.pickT rfl rfl rfl rfl ?_
            refine TL.move rfl rfl ?_
            refine TL.guardNo (d := 68) rfl rfl rfl rfl rfl ?_
            refine TL.guardNo (d := 68) rfl rfl rfl rfl rfl ?_
            refine TL.pickT rfl rfl rfl rfl ?_
            refine TL.move rfl rfl ?_
            refine TL.guardNo (d := 72) rfl rfl rfl rfl rfl ?_
            refine TL.guardNo (d := 72) rfl rfl rfl rfl rfl ?_
            refine TL.pickT rfl rfl rfl rfl ?_
            refine TL.done ?_
            exact hK1  _ _ (by repeat (first | exact trivial | refine ⟨rfl, ?_⟩ | refine ⟨congrArg (fun b => some (Value.bool b)) (by first | exact (decide_eq_true (by grind)).symm | exact (decide_eq_false (by grind)).symm | exact decide_eq_decide.2 (by grind) | exact decide_eq_true (by grind) | exact decide_eq_false (by grind) | (exfalso; grind)), ?_⟩)) (rfl)
          ·
            refine TL.pickF rfl rfl rfl rfl ?_
            refine TL.move rfl rfl ?_
            refine TL.guardYes (d := 46) rfl rfl rfl ?_
            refine TL.move rfl rfl ?_
            refine TL.guardYes (d := 46) rfl rfl rfl ?_
            refine TL.lss rfl rfl rfl ?_
            refine TL.em (fun e48 => ?_) (fun e48 => ?_)
            ·
              refine TL.pickF rfl rfl rfl rfl ?_
              refine TL.move rfl rfl ?_
              refine TL.guardNo (d := 50) rfl rfl rfl rfl rfl ?_
              refine TL.guardNo (d := 50) rfl rfl rfl rfl rfl ?_
              refine TL.guardNo (d := 50) rfl rfl rfl rfl rfl ?_
              refine TL.guardNo (d := 50) rfl rfl rfl rfl rfl ?_
              refine TL.pickT rfl rfl rfl rfl ?_
              refine TL.move rfl rfl ?_
              refine TL.guardNo (d := 56) rfl rfl rfl rfl rfl ?_
              refine TL.guardNo (d := 56) rfl rfl rfl rfl rfl ?_
              refine TL.pickT rfl rfl rfl rfl ?_
              refine TL.move rfl rfl ?_
              refine TL.guardNo (d := 60) rfl rfl rfl rfl rfl ?_
              refine TL.guardNo (d := 60) rfl rfl rfl rfl rfl ?_
              refine TL.pickT rfl rfl rfl rfl ?_
              refine TL.move rfl rfl ?_
              refine TL.guardNo (d := 64) rfl rfl rfl rfl rfl ?_
              refine TL.guardNo (d := 64) rfl rfl rfl rfl rfl ?_
              refine TL.pickT rfl rfl rfl rfl ?_
              refine TL.move rfl rfl ?_
              refine TL.guardNo (d := 68) rfl rfl rfl rfl rfl ?_
              refine TL.guardNo (d := 68) rfl rfl rfl rfl rfl ?_
              refine TL.pickT rfl rfl rfl rfl ?_
              refine TL.move rfl rfl ?_
              refine TL.guardNo (d := 72) rfl rfl rfl rfl rfl ?_
              refine TL.guardNo (d := 72) rfl rfl rfl rfl rfl ?_
              refine TL.pickT rfl rfl rfl rfl ?_
              refine TL.done ?_
              exact hK1  _ _ (by repeat (first | exact trivial | refine ⟨rfl, ?_⟩ | refine ⟨congrArg (fun b => some (Value.bool b)) (by first | exact (decide_eq_true (by grind)).symm | exact (decide_eq_false (by grind)).symm | exact decide_eq_decide.2 (by grind) | exact decide_eq_true (by grind) | exact decide_eq_false (by grind) | (exfalso; grind)), ?_⟩)) (rfl)
            ·
              refine TL.pickF rfl rfl rfl rfl ?_
              refine TL.move rfl rfl ?_
              refine TL.guardYes (d := 50) rfl rfl rfl ?_
              refine TL.move rfl rfl ?_
              refine TL.guardYes (d := 50) rfl rfl rfl ?_
              refine TL.move rfl rfl ?_
              refine TL.guardYes (d := 50) rfl rfl rfl ?_
              refine TL.lenSlice Try.underlying22 rfl rfl ?_
              refine TL.guardYes (d := 50) rfl rfl rfl ?_
              refine TL.geq rfl rfl rfl ?_
              refine TL.em (fun e54 => ?_) (fun e54 => ?_)
              ·
                refine TL.pickF rfl rfl rfl rfl ?_
                refine TL.move rfl rfl ?_
                refine TL.guardNo (d := 56) rfl rfl rfl rfl rfl ?_
                refine TL.guardNo (d := 56) rfl rfl rfl rfl rfl ?_
                refine TL.pickT rfl rfl rfl rfl ?_
                refine TL.move rfl rfl ?_
                refine TL.guardNo (d := 60) rfl rfl rfl rfl rfl ?_
                refine TL.guardNo (d := 60) rfl rfl rfl rfl rfl ?_
                refine TL.pickT rfl rfl rfl rfl ?_
                refine TL.move rfl rfl ?_
                refine TL.guardNo (d := 64) rfl rfl rfl rfl rfl ?_
                refine TL.guardNo (d := 64) rfl rfl rfl rfl rfl ?_
                refine TL.pickT rfl rfl rfl rfl ?_
                refine TL.move rfl rfl ?_
                refine TL.guardNo (d := 68) rfl rfl rfl rfl rfl ?_
                refine TL.guardNo (d := 68) rfl rfl rfl rfl rfl ?_
                refine TL.pickT rfl rfl rfl rfl ?_
                refine TL.move rfl rfl ?_
                refine TL.guardNo (d := 72) rfl rfl rfl rfl rfl ?_
                refine TL.guardNo (d := 72) rfl rfl rfl rfl rfl ?_
                refine TL.pickT rfl rfl rfl rfl ?_
                refine TL.done ?_
                exact hK1  _ _ (by repeat (first | exact trivial | refine ⟨rfl, ?_⟩ | refine ⟨congrArg (fun b => some (Value.bool b)) (by first | exact (decide_eq_true (by grind)).symm | exact (decide_eq_false (by grind)).symm | exact decide_eq_decide.2 (by grind) | exact decide_eq_true (by grind) | exact decide_eq_false (by grind) | (exfalso; grind)), ?_⟩)) (rfl)
              ·
                refine TL.pickF rfl rfl rfl rfl ?_
                refine TL.move rfl rfl ?_
                refine TL.guardYes (d := 56) rfl rfl rfl ?_
                refine TL.move rfl rfl ?_
                refine TL.guardYes (d := 56) rfl rfl rfl ?_
                refine TL.lss rfl rfl rfl ?_
                refine TL.em (fun e58 => ?_) (fun e58 => ?_)
                ·
                  refine TL.pickF rfl rfl rfl rfl ?_
                  refine TL.move rfl rfl ?_
                  refine TL.guardNo (d := 60) rfl rfl rfl rfl rfl ?_
                  refine TL.guardNo (d := 60) rfl rfl rfl rfl rfl ?_
                  refine TL.pickT rfl rfl rfl rfl ?_
                  refine TL.move rfl rfl ?_
                  refine TL.guardNo (d := 64) rfl rfl rfl rfl rfl ?_
                  refine TL.guardNo (d := 64) rfl rfl rfl rfl rfl ?_
                  refine TL.pickT rfl rfl rfl rfl ?_
                  refine TL.move rfl rfl ?_
                  refine TL.guardNo (d := 68) rfl rfl rfl rfl rfl ?_
                  refine TL.guardNo (d := 68) rfl rfl rfl rfl rfl ?_
                  refine TL.pickT rfl rfl rfl rfl ?_
                  refine TL.move rfl rfl ?_
                  refine TL.guardNo (d := 72) rfl rfl rfl rfl rfl ?_
                  refine TL.guardNo (d := 72) rfl rfl rfl rfl rfl ?_
                  refine TL.pickT rfl rfl rfl rfl ?_
                  refine TL.done ?_
                  exact hK1  _ _ (by repeat (first | exact trivial | refine ⟨rfl, ?_⟩ | refine ⟨congrArg (fun b => some (Value.bool b)) (by first | exact (decide_eq_true (by grind)).symm | exact (decide_eq_false (by grind)).symm | exact decide_eq_decide.2 (by grind) | exact decide_eq_true (by grind) | exact decide_eq_false (by grind) | (exfalso; grind)), ?_⟩)) (rfl)
                ·
                  refine TL.pickF rfl rfl rfl rfl ?_
                  refine TL.move rfl rfl ?_
                  refine TL.guardYes (d := 60) rfl rfl rfl ?_
                  refine TL.move rfl rfl ?_
                  refine TL.guardYes (d := 60) rfl rfl rfl ?_
                  refine TL.gtr rfl rfl rfl ?_
                  refine TL.em (fun e62 => ?_) (fun e62 => ?_)
                  ·
                    refine TL.pickF rfl rfl rfl rfl ?_
                    refine TL.move rfl rfl ?_
                    refine TL.guardNo (d := 64) rfl rfl rfl rfl rfl ?_
                    refine TL.guardNo (d := 64) rfl rfl rfl rfl rfl ?_
                    refine TL.pickT rfl rfl rfl rfl ?_
                    refine TL.move rfl rfl ?_
                    refine TL.guardNo (d := 68) rfl rfl rfl rfl rfl ?_
                    refine TL.guardNo (d := 68) rfl rfl rfl rfl rfl ?_
                    refine TL.pickT rfl rfl rfl rfl ?_
                    refine TL.move rfl rfl ?_
                    refine TL.guardNo (d := 72) rfl rfl rfl rfl rfl ?_
                    refine TL.guardNo (d := 72) rfl rfl rfl rfl rfl ?_
                    refine TL.pickT rfl rfl rfl rfl ?_
                    refine TL.done ?_
                    exact hK1  _ _ (by repeat (first | exact trivial | refine ⟨rfl, ?_⟩ | refine ⟨congrArg (fun b => some (Value.bool b)) (by first | exact (decide_eq_true (by grind)).symm | exact (decide_eq_false (by grind)).symm | exact decide_eq_decide.2 (by grind) | exact decide_eq_true (by grind) | exact decide_eq_false (by grind) | (exfalso; grind)), ?_⟩)) (rfl)
                  ·
                    refine TL.pickF rfl rfl rfl rfl ?_
                    refine TL.move rfl rfl ?_
                    refine TL.guardYes (d := 64) rfl rfl rfl ?_
                    refine TL.move rfl rfl ?_
                    refine TL.guardYes (d := 64) rfl rfl rfl ?_
                    refine TL.lss rfl rfl rfl ?_
                    refine TL.em (fun e66 => ?_) (fun e66 => ?_)
                    ·
                      refine TL.pickF rfl rfl rfl rfl ?_
                      refine TL.move rfl rfl ?_
                      refine TL.guardNo (d := 68) rfl rfl rfl rfl rfl ?_
                      refine TL.guardNo (d := 68) rfl rfl rfl rfl rfl ?_
                      refine TL.pickT rfl rfl rfl rfl ?_
                      refine TL.move rfl rfl ?_
                      refine TL.guardNo (d := 72) rfl rfl rfl rfl rfl ?_
                      refine TL.guardNo (d := 72) rfl rfl rfl rfl rfl ?_
                      refine TL.pickT rfl rfl rfl rfl ?_
                      refine TL.done ?_
                      exact hK1  _ _ (by repeat (first | exact trivial | refine ⟨rfl, ?_⟩ | refine ⟨congrArg (fun b => some (Value.bool b)) (by first | exact (decide_eq_true (by grind)).symm | exact (decide_eq_false (by grind)).symm | exact decide_eq_decide.2 (by grind) | exact decide_eq_true (by grind) | exact decide_eq_false (by grind) | (exfalso; grind)), ?_⟩)) (rfl)
                    ·
                      refine TL.pickF rfl rfl rfl rfl ?_
                      refine TL.move rfl rfl ?_
                      refine TL.guardYes (d := 68) rfl rfl rfl ?_
                      refine TL.move rfl rfl ?_
                      refine TL.guardYes (d := 68) rfl rfl rfl ?_
                      refine TL.gtr rfl rfl rfl ?_
                      refine TL.em (fun e70 => ?_) (fun e70 => ?_)
                      ·
                        refine TL.pickF rfl rfl rfl rfl ?_
                        refine TL.move rfl rfl ?_
                        refine TL.guardNo (d := 72) rfl rfl rfl rfl rfl ?_
                        refine TL.guardNo (d := 72) rfl rfl rfl rfl rfl ?_
                        refine TL.pickT rfl rfl rfl rfl ?_
                        refine TL.done ?_
                        exact hK1  _ _ (by repeat (first | exact trivial | refine ⟨rfl, ?_⟩ | refine ⟨congrArg (fun b => some (Value.bool b)) (by first | exact (decide_eq_true (by grind)).symm | exact (decide_eq_false (by grind)).symm | exact decide_eq_decide.2 (by grind) | exact decide_eq_true (by grind) | exact decide_eq_false (by grind) | (exfalso; grind)), ?_⟩)) (rfl)
                      ·
                        refine TL.pickF rfl rfl rfl rfl ?_
                        refine TL.move rfl rfl ?_
                        refine TL.guardYes (d := 72) rfl rfl rfl ?_
                        refine TL.move rfl rfl ?_
                        refine TL.guardYes (d := 72) rfl rfl rfl ?_
                        refine TL.not rfl rfl ?_
                        refine TL.pickF rfl rfl rfl rfl ?_
                        refine TL.done ?_
                        exact hK1  _ _ (by repeat (first | exact trivial | refine ⟨rfl, ?_⟩ | refine ⟨congrArg (fun b => some (Value.bool b)) (by first | exact (decide_eq_true (by grind)).symm | exact (decide_eq_false (by grind)).symm | exact decide_eq_decide.2 (by grind) | exact decide_eq_true (by grind) | exact decide_eq_false (by grind) | (exfalso; grind)), ?_⟩)) (rfl)
  ·
    subst hH
    refine TC.condP rfl (fun h12 => ?_) (fun h12 => ?_)
    ·
      refine TC.seq ?_
      refine TC.region ?_
      refine TL.move rfl rfl ?_
      refine TL.assign rfl rfl ?_
      refine TL.done ?_
      refine Thn.go ?_
      refine TC.ret ?_
      refine Thn.ret ?_
      refine Ends.ret [12] rfl rfl ?_
      exact ⟨rfl, hc28⟩
    ·
      have hno : ¬ (Audit.longP l ∨ 60 < l.length ∨ 32 < u.length ∨ 3000 < d.length ∨ ix < 0 ∨ (l.length : Int) ≤ ix ∨ o < 100 ∨ 599 < o ∨ t < 0 ∨ 1099511627776 < t) := by assumption
      obtain ⟨_, hlh⟩ := Audit.not_long (l := l) (fun h => hno (.inl h))
      have hlen : l.length ≤ 60 := by omega
      obtain ⟨i, rfl⟩ : ∃ i : Nat, ix = (i : Int) := ⟨ix.toNat, by omega⟩
      have hil : i < l.length := by omega
      have haa := ha.ch0 hc28
      refine TC.skip ?_
      refine Thn.go ?_
      refine TC.seq ?_
      refine TC.region ?_
      refine TL.move rfl rfl ?_
      refine TL.call can15 rfl rfl (fn15 _ l _ haa hlh) (fun v79 w79 hr79 => ?_)
      obtain ⟨rfl, hc79⟩ := hr79
      refine TL.move rfl rfl ?_
      refine TL.extract rfl rfl rfl ?_
      refine TL.extract rfl rfl rfl ?_
      refine TL.assign rfl rfl ?_
      refine TL.assign rfl rfl ?_
      refine TL.done ?_
      refine Thn.go ?_
      refine TC.seq ?_
      refine TC.regionBool (d := 87) (p := (Audit.askedE l ≠ 0 ∨ 0 ≤ Audit.checkN l)) (fun K13 hK13 => ?_) ?_
      ·
        refine TL.move rfl rfl ?_
        refine TL.neq rfl rfl rfl ?_
        refine TL.em (fun e83 => ?_) (fun e83 => ?_)
        ·
          refine TL.move rfl rfl ?_
          refine TL.guardNo (d := 84) rfl rfl rfl rfl rfl ?_
          refine TL.guardNo (d := 84) rfl rfl rfl rfl rfl ?_
          refine TL.pickT rfl rfl rfl rfl ?_
          refine TL.done ?_
          refine hK13 _ ?_
          refine Le.here rfl (by first | exact decide_eq_true (by omega) | exact decide_eq_false (by omega) | exact decide_eq_decide.2 (by omega) | exact decide_eq_true (by grind) | exact decide_eq_false (by grind) | exact decide_eq_decide.2 (by grind)) ?_
          repeat (first | exact Le.refl _ | refine Le.skip rfl ?_)
        ·
          refine TL.move rfl rfl ?_
          refine TL.guardYes (d := 84) rfl rfl rfl ?_
          refine TL.move rfl rfl ?_
          refine TL.guardYes (d := 84) rfl rfl rfl ?_
          refine TL.geq rfl rfl rfl ?_
          refine TL.pickF rfl rfl rfl rfl ?_
          refine TL.done ?_
          refine hK13 _ ?_
          refine Le.here rfl (by first | exact decide_eq_true (by omega) | exact decide_eq_false (by omega) | exact decide_eq_decide.2 (by omega) | exact decide_eq_true (by grind) | exact decide_eq_false (by grind) | exact decide_eq_decide.2 (by grind)) ?_
          repeat (first | exact Le.refl _ | refine Le.skip rfl ?_)
      refine TC.condP rfl (fun h15 => ?_) (fun h15 => ?_)
      ·
        refine TC.seq ?_
        refine TC.region ?_
        refine TL.assign rfl rfl ?_
        refine TL.done ?_
        refine Thn.go ?_
        refine TC.ret ?_
        refine Thn.ret ?_
        refine Ends.ret [12] rfl rfl ?_
        exact ⟨rfl, hc28.trans0 hc79⟩
      ·
        have hor : ¬ (Audit.askedE l ≠ 0 ∨ 0 ≤ Audit.checkN l) := by assumption
        have hk : Audit.askedE l = 0 := by omega
        have hfn : ∀ j, j < l.length → Audit.fits l j := (Audit.first_neg l).1 (by have : ¬ 0 ≤ Audit.checkN l := fun h => hor (.inr h); rw [Audit.checkN, if_pos hk] at this; omega)
        have hmay := (Audit.asked_zero hk).2
        obtain ⟨hb64, hbd⟩ := Audit.before_len hmay (i := i) (by omega)
        have hmi := hmay _ (Audit.rec_mem hil)
        have hfi := hfn i hil
        have hrd := haa.ch0 hc79
        refine TC.skip ?_
        refine Thn.go ?_
        refine TC.seq ?_
        refine TC.region ?_
        refine TL.assign rfl rfl ?_
        refine TL.done ?_
        refine Thn.go ?_
        refine TC.seq ?_
        refine TC.region ?_
        refine TL.move rfl rfl ?_
        refine TL.move rfl rfl ?_
        refine TL.append sl22 rfl rfl rfl (World.ownsRow_nil _ w79.heap.size _ _) (News.ofRd Try.underlying22 (hrd) (rows_one _)) (by omega) (by omega) (by omega) (fun v90 w90 hv90 hc90 _ => ?_)
        have q90 : Ch [] w79 w90 := Own.thenCh (World.ownsRow_nil w79 w79.heap.size 32 6) (Ch.refl _ _) hc90
        have hown : Own w90 w79.heap.size 32 6 v90 l.length (l.flatMap cl) := by rw [Nat.zero_add, List.nil_append] at hv90; exact hv90
        obtain ⟨g, cg, rfl⟩ := hown.form (by omega)
        obtain ⟨cur, hcur, hcsz, hcn, _, hgb, _⟩ := hown.has
        obtain ⟨b1, o1, rfl, hce⟩ := recAt (hrd.ch0 q90) hil
        obtain ⟨X, hX⟩ : ∃ X : Audit.Record, X = ⟨(i : Int), t, u, d, o, (Audit.rec l i).hash⟩ := ⟨_, rfl⟩
        have hXh : X.hash = (Audit.rec l i).hash := by rw [hX]
        have hXm : Audit.may X := by rw [hX]; exact ⟨by show (0 : Int) ≤ (i : Int); omega, by show 0 ≤ t; omega, by show t ≤ _; omega, by show u.length ≤ 32; omega, by show d.length ≤ 16384; omega, by show 100 ≤ o; omega, by show o ≤ 599; omega, hmi.2.2.2.2.2.2.2⟩
        have hXhl : X.hash.length ≤ 100000 := by have := hXm.2.2.2.2.2.2.2.2; omega
        refine TL.assign rfl rfl ?_
        refine TL.done ?_
        refine Thn.go ?_
        refine TC.seq ?_
        refine TC.region ?_
        refine TL.move rfl rfl ?_
        refine TL.move rfl rfl ?_
        refine TL.move rfl rfl ?_
        refine TL.move rfl rfl ?_
        refine TL.move rfl rfl ?_
        refine TL.move rfl rfl ?_
        refine TL.move rfl rfl ?_
        refine TL.move rfl rfl ?_
        refine TL.move rfl rfl ?_
        refine TL.indexAddr (i) sl22 rfl rfl (by first | rfl | omega) (by omega) rfl ?_
        refine TL.fieldAddr fd32k5 rfl rfl ?_
        refine TL.load pl9 rfl ((show _ = some (str (Audit.rec l i).hash) from hce 5 (by decide))) rfl ?_
        refine TL.buildRec [0, 1, 2, 3, 4, 5] [.tmp 93, .tmp 94, .tmp 95, .tmp 96, .tmp 97, .tmp 102] (cl X) rfl rfl (by subst hX; kernel_rfl) rfl ?_
        refine TL.indexAddr (i) sl22 rfl rfl (by first | rfl | omega) (by omega) rfl ?_
        refine TL.store sz32 rfl rfl rfl hcur (by rw [hcsz]; have := Nat.mul_le_mul_right 6 (show i + 1 ≤ cg by omega); omega) (by simpa [Value.cells] using cl_one X) (.inl rfl) (fun ws1 hbs1 hcs1 hzs1 => ?_)
        have hown2 := hown.setRec cl_len hcur (k := i) (x := X) hil hbs1
        have q1 : Ch [] w79 ws1 := q90.then1 hcs1 hgb
        obtain ⟨T, hT⟩ : ∃ T, l.set i X = T := ⟨_, rfl⟩
        have hTl : T.length = l.length := by rw [← hT, List.length_set]
        have hTi : Audit.rec T i = X := by rw [← hT, Audit.set_rec X hil, if_pos rfl]
        have hTm : ∀ r ∈ T, Audit.may r := fun r hr => by
          rw [← hT] at hr
          rcases List.mem_or_eq_of_mem_set hr with h | h
          · exact hmay r h
          · rw [h]; exact hXm
        have hTa : Audit.askedE T = 0 := Audit.asked_ok (by omega) hTm
        have hTh : ∀ r ∈ T, r.hash.length ≤ 100000 := fun r hr => by have := (hTm r hr).2.2.2.2.2.2.2.2; omega
        rw [hT, ← hTl] at hown2
        rw [← hTl]
        refine TL.done ?_
        refine Thn.go ?_
        refine TC.seq ?_
        refine TC.region ?_
        refine TL.assign rfl rfl ?_
        refine TL.done ?_
        refine Thn.go ?_
        refine TC.cut0 ([(0, .slice (some ⟨b1, o1, none⟩) T.length c), (5, .int .i64 (i : Int)), (16, .slice (some ⟨g, 0, none⟩) T.length cg), (17, str (Audit.before l i))]) (fun w2 => ws1 = w2) (fun K16 hK16 => ?_) (fun w2 hH => ?_)
        ·
          refine TC.seq ?_
          refine TC.region ?_
          refine TL.move rfl rfl ?_
          refine TL.gtr rfl rfl rfl ?_
          refine TL.done ?_
          refine Thn.go ?_
          refine TC.condP rfl (fun h17 => ?_) (fun h17 => ?_)
          ·
            have hbf : Audit.before l i = (Audit.rec l (i - 1)).hash := if_neg (by omega)
            refine TC.region ?_
            refine TL.move rfl rfl ?_
            refine TL.move rfl rfl ?_
            refine TL.sub_i64 rfl rfl (by omega) (by omega) rfl ?_
            refine TL.indexAddr (i - 1) sl22 rfl rfl (by first | rfl | omega) (by omega) rfl ?_
            refine TL.fieldAddr fd32k5 rfl rfl ?_
            refine TL.load pl9 rfl ((show _ = some (str (Audit.before l i)) from by obtain ⟨b', o', e, hh⟩ := recAt (i := i - 1) (hrd.ch0 q1) (by omega); cases e; rw [hbf]; exact hh 5 (by decide))) rfl ?_
            refine TL.assign rfl rfl ?_
            refine TL.done ?_
            exact hK16  _ _ (by repeat (first | exact trivial | refine ⟨rfl, ?_⟩ | refine ⟨congrArg (fun b => some (Value.bool b)) (by first | exact (decide_eq_true (by grind)).symm | exact (decide_eq_false (by grind)).symm | exact decide_eq_decide.2 (by grind) | exact decide_eq_true (by grind) | exact decide_eq_false (by grind) | (exfalso; grind)), ?_⟩)) (rfl)
          ·
            have hi0 : i = 0 := by omega
            subst hi0
            refine TC.skip ?_
            exact hK16  _ _ (by repeat (first | exact trivial | refine ⟨rfl, ?_⟩ | refine ⟨congrArg (fun b => some (Value.bool b)) (by first | exact (decide_eq_true (by grind)).symm | exact (decide_eq_false (by grind)).symm | exact decide_eq_decide.2 (by grind) | exact decide_eq_true (by grind) | exact decide_eq_false (by grind) | (exfalso; grind)), ?_⟩)) (rfl)
        ·
          subst hH
          refine TC.seq ?_
          refine TC.region ?_
          refine TL.move rfl rfl ?_
          refine TL.move rfl rfl ?_
          refine TL.indexAddr (i) sl22 rfl rfl (by first | rfl | omega) (by omega) rfl ?_
          refine TL.loadAgg (cl (Audit.rec l i)) ag32 rfl rfl (fun j hj => by obtain ⟨b', o', e, hh⟩ := recAt (i := i) (hrd.ch0 q1) hil; cases e; exact hh j hj) rfl ?_
          refine TL.move rfl rfl ?_
          refine TL.call can13 rfl rfl (fn13 (Audit.rec l i) (Audit.before l i) (hlh (by omega) _ (Audit.rec_mem hil)) (by omega) _) (fun v119 w119 hr119 => ?_)
          obtain ⟨rfl, hc119⟩ := hr119
          have et1 : Audit.textE (Audit.rec l i) (Audit.before l i) = 0 := by rw [Audit.textE, if_neg (by simpa using hmi), if_neg (by simpa using hbd)]
          have et2 : Audit.textS (Audit.rec l i) (Audit.before l i) = Audit.bytesR (Audit.rec l i) (Audit.before l i) := if_pos et1
          have ex1 : Audit.textE X (Audit.before l i) = 0 := by rw [Audit.textE, if_neg (by simpa using hXm), if_neg (by simpa using hbd)]
          have ex2 : Audit.textS X (Audit.before l i) = Audit.bytesR X (Audit.before l i) := if_pos ex1
          rw [et1, et2]
          have hown3 := hown2.ch0 hc119
          refine TL.move rfl rfl ?_
          refine TL.extract rfl rfl rfl ?_
          refine TL.extract rfl rfl rfl ?_
          refine TL.assign rfl rfl ?_
          refine TL.assign rfl rfl ?_
          refine TL.done ?_
          refine Thn.go ?_
          refine TC.seq ?_
          refine TC.region ?_
          refine TL.move rfl rfl ?_
          refine TL.move rfl rfl ?_
          refine TL.indexAddr (i) sl22 rfl rfl (by first | rfl | omega) (by omega) rfl ?_
          refine TL.loadAgg (cl X) ag32 rfl rfl (fun j hj => by obtain ⟨b', o', e, hh⟩ := recAt (i := i) (Rd.ofOwn hown3) (by omega); cases e; rw [hTi] at hh; exact hh j hj) rfl ?_
          refine TL.move rfl rfl ?_
          refine TL.call can13 rfl rfl (fn13 X (Audit.before l i) hXhl (by omega) w119) (fun v128 w128 hr128 => ?_)
          obtain ⟨rfl, hc128⟩ := hr128
          rw [ex1, ex2]
          obtain ⟨m1, m2, m3, m4, m5, m6, m7, m8⟩ := hmi
          have hXm' := hXm
          obtain ⟨x1, x2, x3, x4, x5, x6, x7, x8⟩ := hXm'
          have hbl1 := Audit.bytesR_len (Audit.rec l i) (Audit.before l i) (by omega) (by omega) (by omega)
          have hbl2 := Audit.bytesR_len X (Audit.before l i) (by omega) (by omega) (by omega)
          refine TL.move rfl rfl ?_
          refine TL.extract rfl rfl rfl ?_
          refine TL.extract rfl rfl rfl ?_
          refine TL.assign rfl rfl ?_
          refine TL.assign rfl rfl ?_
          refine TL.done ?_
          refine Thn.go ?_
          refine TC.seq ?_
          refine TC.region ?_
          refine TL.move rfl rfl ?_
          refine TL.strRd Try.underlying9 Try.underlying50 Try.underlying5 rfl (by omega) rfl (fun v132 w132 hv132 hs132 _ hc132 hzz132 => ?_)
          refine TL.call can22 rfl rfl (fn22 _ (Audit.bytesR (Audit.rec l i) (Audit.before l i)) (by omega) _ hv132) (fun v133 w133 hr133 => ?_)
          obtain ⟨rfl, hc133⟩ := hr133
          have hs1 := Sha.sum_len (Audit.bytesR (Audit.rec l i) (Audit.before l i))
          have hs2 := Sha.sum_len (Audit.bytesR X (Audit.before l i))
          refine TL.alloc ze48 rfl (fun w21 hb21 hc21 hz21 => ?_)
          refine TL.store sz48 rfl rfl (by simpa [Value.cells] using hs1) hb21 (by simp [Value.cells]) (by simpa [Value.cells] using one_u8 (Sha.sum (Audit.bytesR (Audit.rec l i) (Audit.before l i)))) (.inl rfl) (fun ws2 hbs2 hcs2 hzs2 => ?_)
          replace hbs2 : Has ws2 w133.heap.size ((Sha.sum (Audit.bytesR (Audit.rec l i) (Audit.before l i))).map u8).toArray 48 (0, 0) := hbs2.setAll (by simp [Value.cells, hs1])
          have q2 : Ch [] w128 ws2 := ((hc132.trans0 hc133).trans0 hc21).then1 hcs2 (by have := hc132.size; have := hc133.size; omega)
          refine TL.done ?_
          refine Thn.go ?_
          refine TC.seq ?_
          refine TC.region ?_
          refine TL.move rfl rfl ?_
          refine TL.strRd Try.underlying9 Try.underlying50 Try.underlying5 rfl (by omega) rfl (fun v135 w135 hv135 hs135 _ hc135 hzz135 => ?_)
          refine TL.call can22 rfl rfl (fn22 _ (Audit.bytesR X (Audit.before l i)) (by omega) _ hv135) (fun v136 w136 hr136 => ?_)
          obtain ⟨rfl, hc136⟩ := hr136
          refine TL.alloc ze48 rfl (fun w22 hb22 hc22 hz22 => ?_)
          refine TL.store sz48 rfl rfl (by simpa [Value.cells] using hs2) hb22 (by simp [Value.cells]) (by simpa [Value.cells] using one_u8 (Sha.sum (Audit.bytesR X (Audit.before l i)))) (.inl rfl) (fun ws3 hbs3 hcs3 hzs3 => ?_)
          replace hbs3 : Has ws3 w136.heap.size ((Sha.sum (Audit.bytesR X (Audit.before l i))).map u8).toArray 48 (0, 0) := hbs3.setAll (by simp [Value.cells, hs2])
          have q3 : Ch [] ws2 ws3 := ((hc135.trans0 hc136).trans0 hc22).then1 hcs3 (by have := hc135.size; have := hc136.size; omega)
          have hown4 := ((hown3.ch0 hc128).ch0 q2).ch0 q3
          refine TL.done ?_
          refine Thn.go ?_
          refine TC.seq ?_
          refine TC.region ?_
          refine TL.move rfl rfl ?_
          refine TL.call can15 rfl rfl (fn15 _ T ws3 (Rd.ofOwn hown4) (fun _ => hTh)) (fun v139 w139 hr139 => ?_)
          obtain ⟨rfl, hc139⟩ := hr139
          have hcT : Audit.checkN T = Audit.firstI T := if_pos hTa
          rw [hTa, hcT]
          have q4 : Ch [] ws1 w139 := (((hc119.trans0 hc128).trans0 q2).trans0 q3).trans0 hc139
          have hce1 : ∀ w2, Ch [] w139 w2 → ∀ j, j < 6 → w2.cell? ⟨b1, o1 + i * 6 + j, none⟩ = (cl (Audit.rec l i))[j]? := fun w2 h2 j hj => by obtain ⟨b', o', e, hh⟩ := recAt (((hrd.ch0 q1).ch0 q4).ch0 h2) hil; cases e; exact hh j hj
          have hce2 : ∀ w2, Ch [] w139 w2 → ∀ j, j < 6 → w2.cell? ⟨g, 0 + i * 6 + j, none⟩ = (cl X)[j]? := fun w2 h2 j hj => by obtain ⟨b', o', e, hh⟩ := recAt (i := i) (((Rd.ofOwn hown4).ch0 hc139).ch0 h2) (by omega); cases e; rw [hTi] at hh; exact hh j hj
          have hcd1 := (hbs2.ch0 q3).ch0 hc139
          have hcd2 := hbs3.ch0 hc139
          have hkey : Sha.sum (Audit.bytesR (Audit.rec l i) (Audit.before l i)) ≠ Sha.sum (Audit.bytesR X (Audit.before l i)) → Audit.firstI T = (i : Int) := fun hne => by
            rw [← hT]
            refine Audit.turned_first hil hfn (fun h => hne ?_)
            rw [hXh, hfi.2.2, Audit.hashed, Audit.hashed] at h
            have := congrArg Hex.unV h
            rwa [Hex.unV_hexL, Hex.unV_hexL] at this
          refine TL.move rfl rfl ?_
          refine TL.extract rfl rfl rfl ?_
          refine TL.extract rfl rfl rfl ?_
          refine TL.assign rfl rfl ?_
          refine TL.assign rfl rfl ?_
          refine TL.done ?_
          refine Thn.go ?_
          refine TC.seq ?_
          refine TC.seq ?_
          refine TC.region ?_
          refine TL.move rfl rfl ?_
          refine TL.neq rfl rfl rfl ?_
          refine TL.no (by simp) ?_
          refine TL.move rfl rfl ?_
          refine TL.guardYes (d := 144) rfl rfl rfl ?_
          refine TL.move rfl rfl ?_
          refine TL.guardYes (d := 144) rfl rfl rfl ?_
          refine TL.neq rfl rfl rfl ?_
          refine TL.no (by simp) ?_
          refine TL.pickF rfl rfl rfl rfl ?_
          refine TL.move rfl rfl ?_
          refine TL.guardYes (d := 148) rfl rfl rfl ?_
          refine TL.move rfl rfl ?_
          refine TL.guardYes (d := 148) rfl rfl rfl ?_
          refine TL.neq rfl rfl rfl ?_
          refine TL.no (by simp) ?_
          refine TL.pickF rfl rfl rfl rfl ?_
          refine TL.done ?_
          refine Thn.go ?_
          refine TC.condF rfl rfl ?_
          refine TC.skip ?_
          refine Thn.go ?_
          refine TC.seq ?_
          refine TC.cut0 ([(0, .slice (some ⟨b1, o1, none⟩) T.length c), (5, .int .i64 (i : Int)), (170, .bool false)]) (fun w2 => Ch [] w139 w2) (fun K21 hK21 => ?_) (fun w2 hH => ?_)
          ·
            refine TC.regionQ (fun w4 => Ch [] w139 w4) mixed0 (by kernel_rfl) (Ch.drew [] _) ?_
            refine TQ.via rfl rfl rfl rfl (fun w2 hw2 => TL.move rfl rfl (TL.done ⟨rfl, rfl⟩)) ?_
            refine TQ.via rfl rfl rfl rfl (fun w2 hw2 => TL.move rfl rfl (TL.done ⟨rfl, rfl⟩)) ?_
            refine TQ.via rfl rfl rfl rfl (fun w2 hw2 => TL.indexAddr (i) sl22 rfl rfl (by first | rfl | omega) (by omega) rfl (TL.done ⟨rfl, rfl⟩)) ?_
            refine TQ.via rfl rfl rfl rfl (fun w2 hw2 => TL.loadAgg (cl X) ag32 rfl rfl (fun j hj => hce2 _ hw2 j hj) rfl (TL.done ⟨rfl, rfl⟩)) ?_
            refine TQ.via rfl rfl rfl rfl (fun w2 hw2 => TL.move rfl rfl (TL.done ⟨rfl, rfl⟩)) ?_
            refine TQ.via rfl rfl rfl rfl (fun w2 hw2 => TL.move rfl rfl (TL.done ⟨rfl, rfl⟩)) ?_
            refine TQ.via rfl rfl rfl rfl (fun w2 hw2 => TL.indexAddr (i) sl22 rfl rfl (by first | rfl | omega) (by omega) rfl (TL.done ⟨rfl, rfl⟩)) ?_
            refine TQ.via rfl rfl rfl rfl (fun w2 hw2 => TL.loadAgg (cl (Audit.rec l i)) ag32 rfl rfl (fun j hj => hce1 _ hw2 j hj) rfl (TL.done ⟨rfl, rfl⟩)) ?_
            refine TQ.via rfl rfl rfl rfl (fun w2 hw2 => TL.neqAgg gd32 (eqRecord _ _ _) rfl rfl rfl (TL.done ⟨rfl, rfl⟩)) ?_
            refine TQ.em (fun e160 => ?_) (fun e160 => ?_)
            ·
              refine TQ.via rfl rfl rfl rfl (fun w2 hw2 => TL.move rfl rfl (TL.done ⟨rfl, rfl⟩)) ?_
              refine TQ.guardYes (d := 161) rfl rfl rfl ?_
              refine TQ.via rfl rfl rfl rfl (fun w2 hw2 => TL.loadAgg ((Sha.sum (Audit.bytesR (Audit.rec l i) (Audit.before l i))).map u8) ag48 rfl (by simpa using hs1) (fun j _ => by rw [(hcd1.ch0 hw2).cell, Nat.zero_add, List.getElem?_toArray]) rfl (TL.done ⟨rfl, rfl⟩)) ?_
              refine TQ.guardYes (d := 161) rfl rfl rfl ?_
              refine TQ.via rfl rfl rfl rfl (fun w2 hw2 => TL.loadAgg ((Sha.sum (Audit.bytesR X (Audit.before l i))).map u8) ag48 rfl (by simpa using hs2) (fun j _ => by rw [(hcd2.ch0 hw2).cell, Nat.zero_add, List.getElem?_toArray]) rfl (TL.done ⟨rfl, rfl⟩)) ?_
              refine TQ.guardYes (d := 161) rfl rfl rfl ?_
              refine TQ.via rfl rfl rfl rfl (fun w2 hw2 => TL.neqAgg gd48 (eq48 _ _ hs1 hs2 _) rfl rfl rfl (TL.done ⟨rfl, rfl⟩)) ?_
              refine TQ.em (fun e164 => ?_) (fun e164 => ?_)
              ·
                refine TQ.via rfl rfl rfl rfl (fun w2 hw2 => TL.pickT rfl rfl rfl rfl (TL.done ⟨rfl, rfl⟩)) ?_
                refine TQ.via rfl rfl rfl rfl (fun w2 hw2 => TL.move rfl rfl (TL.done ⟨rfl, rfl⟩)) ?_
                refine TQ.guardYes (d := 166) rfl rfl rfl ?_
                refine TQ.via rfl rfl rfl rfl (fun w2 hw2 => TL.move rfl rfl (TL.done ⟨rfl, rfl⟩)) ?_
                refine TQ.guardYes (d := 166) rfl rfl rfl ?_
                refine TQ.via rfl rfl rfl rfl (fun w2 hw2 => TL.move rfl rfl (TL.done ⟨rfl, rfl⟩)) ?_
                refine TQ.guardYes (d := 166) rfl rfl rfl ?_
                refine TQ.via rfl rfl rfl rfl (fun w2 hw2 => TL.neq rfl rfl rfl (TL.done ⟨rfl, rfl⟩)) ?_
                refine TQ.via rfl rfl rfl rfl (fun w2 hw2 => TL.pickT rfl rfl rfl rfl (TL.done ⟨rfl, rfl⟩)) ?_
                refine TQ.done (fun w2 hw2 => ?_)
                exact hK21  _ _ (by repeat (first | exact trivial | refine ⟨rfl, ?_⟩ | refine ⟨congrArg (fun b => some (Value.bool b)) (by first | exact (decide_eq_true (by grind)).symm | exact (decide_eq_false (by grind)).symm | exact decide_eq_decide.2 (by grind) | exact decide_eq_true (by grind) | exact decide_eq_false (by grind) | (exfalso; grind)), ?_⟩)) (hw2)
              ·
                refine TQ.via rfl rfl rfl rfl (fun w2 hw2 => TL.pickT rfl rfl rfl rfl (TL.done ⟨rfl, rfl⟩)) ?_
                refine TQ.via rfl rfl rfl rfl (fun w2 hw2 => TL.move rfl rfl (TL.done ⟨rfl, rfl⟩)) ?_
                refine TQ.guardNo (d := 166) rfl rfl rfl rfl rfl ?_
                refine TQ.guardNo (d := 166) rfl rfl rfl rfl rfl ?_
                refine TQ.guardNo (d := 166) rfl rfl rfl rfl rfl ?_
                refine TQ.via rfl rfl rfl rfl (fun w2 hw2 => TL.pickF rfl rfl rfl rfl (TL.done ⟨rfl, rfl⟩)) ?_
                refine TQ.done (fun w2 hw2 => ?_)
                exact hK21  _ _ (by repeat (first | exact trivial | refine ⟨rfl, ?_⟩ | refine ⟨congrArg (fun b => some (Value.bool b)) (by first | exact (decide_eq_true (by grind)).symm | exact (decide_eq_false (by grind)).symm | exact decide_eq_decide.2 (by grind) | exact decide_eq_true (by grind) | exact decide_eq_false (by grind) | (exfalso; grind)), ?_⟩)) (hw2)
            ·
              refine TQ.via rfl rfl rfl rfl (fun w2 hw2 => TL.move rfl rfl (TL.done ⟨rfl, rfl⟩)) ?_
              refine TQ.guardNo (d := 161) rfl rfl rfl rfl rfl ?_
              refine TQ.guardNo (d := 161) rfl rfl rfl rfl rfl ?_
              refine TQ.guardNo (d := 161) rfl rfl rfl rfl rfl ?_
              refine TQ.via rfl rfl rfl rfl (fun w2 hw2 => TL.pickF rfl rfl rfl rfl (TL.done ⟨rfl, rfl⟩)) ?_
              refine TQ.via rfl rfl rfl rfl (fun w2 hw2 => TL.move rfl rfl (TL.done ⟨rfl, rfl⟩)) ?_
              refine TQ.guardNo (d := 166) rfl rfl rfl rfl rfl ?_
              refine TQ.guardNo (d := 166) rfl rfl rfl rfl rfl ?_
              refine TQ.guardNo (d := 166) rfl rfl rfl rfl rfl ?_
              refine TQ.via rfl rfl rfl rfl (fun w2 hw2 => TL.pickF rfl rfl rfl rfl (TL.done ⟨rfl, rfl⟩)) ?_
              refine TQ.done (fun w2 hw2 => ?_)
              exact hK21  _ _ (by repeat (first | exact trivial | refine ⟨rfl, ?_⟩ | refine ⟨congrArg (fun b => some (Value.bool b)) (by first | exact (decide_eq_true (by grind)).symm | exact (decide_eq_false (by grind)).symm | exact decide_eq_decide.2 (by grind) | exact decide_eq_true (by grind) | exact decide_eq_false (by grind) | (exfalso; grind)), ?_⟩)) (hw2)
          ·
            have hcapl := ha.cap
            have hrdT : Rd w2 (.slice (some ⟨b1, o1, none⟩) T.length c) 6 T.length (l.flatMap cl) := by rw [hTl]; exact ((hrd.ch0 q1).ch0 q4).ch0 hH
            have hr1 := hrdT.to (j := i) (by omega)
            rw [rows_take cl_len] at hr1
            have hr2 := hrdT.behind (i := i + 1) (by omega)
            rw [rows_drop cl_len] at hr2
            obtain ⟨Cu, hCu⟩ : ∃ Cu, l.take i ++ l.drop (i + 1) = Cu := ⟨_, rfl⟩
            have hCl : Cu.length = i + (T.length - (i + 1)) := by rw [← hCu, List.length_append, List.length_take, List.length_drop]; omega
            have hCa := Audit.cut_asked (i := i) hk
            have hCf := Audit.cut_first hil hfn
            rw [hCu] at hCa hCf
            have hcC : Audit.checkN Cu = if i = l.length - 1 then -1 else (i : Int) := by rw [Audit.checkN, if_pos hCa, hCf]
            refine TC.condF rfl rfl ?_
            refine TC.skip ?_
            refine Thn.go ?_
            refine TC.seq ?_
            refine TC.region ?_
            refine TL.assign rfl rfl ?_
            refine TL.done ?_
            refine Thn.go ?_
            refine TC.seq ?_
            refine TC.region ?_
            refine TL.move rfl rfl ?_
            refine TL.move rfl rfl ?_
            refine TL.move rfl rfl ?_
            refine TL.sliceTo (i) sl22 rfl rfl (by first | rfl | omega) (by omega) rfl ?_
            refine TL.append sl22 rfl rfl rfl (World.ownsRow_nil _ w2.heap.size _ _) (News.ofRd Try.underlying22 (hr1) (rows_one _)) (by omega) (by omega) (by omega) (fun v175 w175 hv175 hc175 _ => ?_)
            have q5 : Ch [] w2 w175 := Own.thenCh (World.ownsRow_nil w2 w2.heap.size 32 6) (Ch.refl _ _) hc175
            have z5 := q5.size
            refine TL.assign rfl rfl ?_
            refine TL.done ?_
            refine Thn.go ?_
            refine TC.seq ?_
            refine TC.region ?_
            refine TL.move rfl rfl ?_
            refine TL.move rfl rfl ?_
            refine TL.move rfl rfl ?_
            refine TL.add_i64 rfl rfl (by omega) (by omega) rfl ?_
            refine TL.sliceFrom (i + 1) sl22 rfl rfl (by first | rfl | omega) (by omega) rfl ?_
            refine TL.append sl22 rfl rfl rfl (hv175) (News.ofRd Try.underlying22 (hr2.ch0 q5) (rows_one _)) (by omega) (by omega) (by omega) (fun v181 w181 hv181 hc181 _ => ?_)
            refine TL.assign rfl rfl ?_
            refine TL.done ?_
            refine Thn.go ?_
            refine TC.seq ?_
            refine TC.region ?_
            refine TL.move rfl rfl ?_
            refine TL.call can15 rfl rfl (fn15 _ Cu w181 (Rd.recs (Rd.ofOwn hv181) Cu (by omega) (by rw [← hCu, List.flatMap_append, List.nil_append])) (fun _ r hr => by have := ((Audit.asked_zero hCa).2 r hr).2.2.2.2.2.2.2.2; omega)) (fun v184 w184 hr184 => ?_)
            obtain ⟨rfl, hc184⟩ := hr184
            rw [hCa, hcC]
            have q6 : Ch [] w w184 := (((((hc28.trans0 hc79).trans0 (q1.trans0 q4)).trans0 hH).trans0 (hv175.thenCh q5 hc181)).trans0 hc184)
            refine TL.move rfl rfl ?_
            refine TL.extract rfl rfl rfl ?_
            refine TL.extract rfl rfl rfl ?_
            refine TL.assign rfl rfl ?_
            refine TL.assign rfl rfl ?_
            refine TL.done ?_
            refine Thn.go ?_
            refine TC.seq ?_
            refine TC.seq ?_
            refine TC.region ?_
            refine TL.move rfl rfl ?_
            refine TL.move rfl rfl ?_
            refine TL.lenSlice Try.underlying22 rfl rfl ?_
            refine TL.sub_i64 rfl rfl (by omega) (by omega) rfl ?_
            refine TL.eql rfl rfl rfl ?_
            refine TL.done ?_
            refine Thn.go ?_
            refine TC.condP rfl (fun h25 => ?_) (fun h25 => ?_)
            ·
              have hil1 : i = l.length - 1 := by omega
              refine TC.seq ?_
              refine TC.region ?_
              refine TL.move rfl rfl ?_
              refine TL.eql rfl rfl rfl ?_
              refine TL.yes (rfl) ?_
              refine TL.move rfl rfl ?_
              refine TL.guardYes (d := 194) rfl rfl rfl ?_
              refine TL.move rfl rfl ?_
              refine TL.guardYes (d := 194) rfl rfl rfl ?_
              refine TL.eql rfl rfl rfl ?_
              refine TL.yes (if_pos hil1) ?_
              refine TL.pickT rfl rfl rfl rfl ?_
              refine TL.assign rfl rfl ?_
              refine TL.done ?_
              refine Thn.go ?_
              refine TC.ret ?_
              refine Thn.ret ?_
              refine Ends.ret [12] rfl rfl ?_
              exact ⟨rfl, q6⟩
            ·
              have hil1 : ¬ i = l.length - 1 := by omega
              refine TC.skip ?_
              refine Thn.go ?_
              refine TC.seq ?_
              refine TC.region ?_
              refine TL.move rfl rfl ?_
              refine TL.eql rfl rfl rfl ?_
              refine TL.yes (rfl) ?_
              refine TL.move rfl rfl ?_
              refine TL.guardYes (d := 200) rfl rfl rfl ?_
              refine TL.move rfl rfl ?_
              refine TL.guardYes (d := 200) rfl rfl rfl ?_
              refine TL.move rfl rfl ?_
              refine TL.guardYes (d := 200) rfl rfl rfl ?_
              refine TL.eql rfl rfl rfl ?_
              refine TL.yes (if_neg hil1) ?_
              refine TL.pickT rfl rfl rfl rfl ?_
              refine TL.assign rfl rfl ?_
              refine TL.done ?_
              refine Thn.go ?_
              refine TC.ret ?_
              refine Ends.ret [12] rfl rfl ?_
              exact ⟨rfl, q6⟩

