/-
  Walks through the given program: each theorem fnN says what the call of function N of the translation hands back, for all arguments that its premises describe, and that nothing that was there has turned.
-/
import Derived.Test.YtjnagpddiemdhaaW0
import Derived.Test.YtjnagpddiemdhaaRune
import Derived.Test.YtjnagpddiemdhaaRunes
import Derived.Test.YtjnagpddiemdhaaShelf
namespace Go.Proofs.Ytjnagpddiemdhaa
open Go.Lane
theorem can41 : Callable Try.prog 41 := ⟨Try.f41, Try.func41, by kernel_rfl, rfl⟩
theorem can42 : Callable Try.prog 42 := ⟨Try.f42, Try.func42, by kernel_rfl, rfl⟩
theorem can43 : Callable Try.prog 43 := ⟨Try.f43, Try.func43, by kernel_rfl, rfl⟩
theorem runes (r : Int) (w : World) (h0 : 0 ≤ r) (h1 : r ≤ 1114111) : Rets Try.prog 43 #[.string ⟨#[45, 95, 46]⟩, .int .i32 r] w (fun v w' => v = .bool (decide (r = 45 ∨ r = 95 ∨ r = 46)) ∧ Ch [] w w') := by
  by_cases h : r < 128
  · refine (Try.strings_ContainsRune_ascii ⟨#[45, 95, 46]⟩ r w h0 h).mono fun e w' ⟨he, hw⟩ => ⟨_, he, ?_, by rw [hw]; exact Ch.refl _ _⟩
    rw [decide_eq_decide.2 (Wk.dash_idx r h0 h)]
  · refine (Any.ContainsRune_wide Try.lays151 r w (by omega) h1).mono fun e w' ⟨he, hb⟩ => ⟨_, he, ?_, Ch.ofBelow hb⟩
    rw [decide_eq_false (by omega)]

theorem fn42 (x : Nat) (hx : x ≤ 1114111) (w : World) : Rets Try.prog 42 #[.int .i32 (x : Int)] w (fun v w' => v = .bool (!Wk.okR x) ∧ Ch [] w w') := by
  refine Rets.of (n := 22) (vs := [_]) Try.func42 rfl rfl rfl ?_
  refine TC.seq ?_
  refine TC.region ?_
  refine TL.assign rfl rfl ?_
  refine TL.done ?_
  refine Thn.go ?_
  refine TC.cut0 ([(2, .bool (decide (¬ ((97 ≤ (x : Int) ∧ (x : Int) ≤ 122) ∨ (48 ≤ (x : Int) ∧ (x : Int) ≤ 57) ∨ (x : Int) = 45 ∨ (x : Int) = 95 ∨ (x : Int) = 46))))]) (fun w2 => Ch [] w w2) (fun K1 hK1 => ?_) (fun w2 hH => ?_)
  ·
    refine TC.region ?_
    refine TL.move rfl rfl ?_
    refine TL.geq rfl rfl rfl ?_
    refine TL.em (fun e4 => ?_) (fun e4 => ?_)
    ·
      refine TL.move rfl rfl ?_
      refine TL.guardYes (d := 5) rfl rfl rfl ?_
      refine TL.move rfl rfl ?_
      refine TL.guardYes (d := 5) rfl rfl rfl ?_
      refine TL.leq rfl rfl rfl ?_
      refine TL.em (fun e7 => ?_) (fun e7 => ?_)
      ·
        refine TL.pickT rfl rfl rfl rfl ?_
        refine TL.move rfl rfl ?_
        refine TL.guardNo (d := 9) rfl rfl rfl rfl rfl ?_
        refine TL.guardNo (d := 9) rfl rfl rfl rfl rfl ?_
        refine TL.guardNo (d := 9) rfl rfl rfl rfl rfl ?_
        refine TL.guardUndef (d := 12) rfl rfl rfl rfl ?_
        refine TL.guardUndef (d := 12) rfl rfl rfl rfl ?_
        refine TL.guardNo (d := 9) rfl rfl rfl rfl rfl ?_
        refine TL.pickT rfl rfl rfl rfl ?_
        refine TL.move rfl rfl ?_
        refine TL.guardNo (d := 17) rfl rfl rfl rfl rfl ?_
        refine TL.guardNo (d := 17) rfl rfl rfl rfl rfl ?_
        refine TL.pickT rfl rfl rfl rfl ?_
        refine TL.not rfl rfl ?_
        refine TL.assign rfl rfl ?_
        refine TL.done ?_
        exact hK1  _ _ (by repeat (first | exact trivial | refine ⟨rfl, ?_⟩ | refine ⟨congrArg (fun b => some (Value.bool b)) (by first | exact (decide_eq_true (by grind)).symm | exact (decide_eq_false (by grind)).symm | exact decide_eq_decide.2 (by grind) | exact decide_eq_true (by grind) | exact decide_eq_false (by grind) | (exfalso; grind)), ?_⟩)) (by first | exact hc19 | exact Ch.refl _ _)
      ·
        refine TL.pickT rfl rfl rfl rfl ?_
        refine TL.move rfl rfl ?_
        refine TL.guardYes (d := 9) rfl rfl rfl ?_
        refine TL.move rfl rfl ?_
        refine TL.guardYes (d := 9) rfl rfl rfl ?_
        refine TL.geq rfl rfl rfl ?_
        refine TL.em (fun e11 => ?_) (fun e11 => ?_)
        ·
          refine TL.guardYes (d := 9) rfl rfl rfl ?_
          refine TL.move rfl rfl ?_
          refine TL.guardYes (d := 12) rfl rfl rfl ?_
          refine TL.move rfl rfl ?_
          refine TL.guardYes (d := 12) rfl rfl rfl ?_
          refine TL.leq rfl rfl rfl ?_
          refine TL.em (fun e14 => ?_) (fun e14 => ?_)
          ·
            refine TL.guardYes (d := 9) rfl rfl rfl ?_
            refine TL.pickT rfl rfl rfl rfl ?_
            refine TL.pickF rfl rfl rfl rfl ?_
            refine TL.move rfl rfl ?_
            refine TL.guardNo (d := 17) rfl rfl rfl rfl rfl ?_
            refine TL.guardNo (d := 17) rfl rfl rfl rfl rfl ?_
            refine TL.pickT rfl rfl rfl rfl ?_
            refine TL.not rfl rfl ?_
            refine TL.assign rfl rfl ?_
            refine TL.done ?_
            exact hK1  _ _ (by repeat (first | exact trivial | refine ⟨rfl, ?_⟩ | refine ⟨congrArg (fun b => some (Value.bool b)) (by first | exact (decide_eq_true (by grind)).symm | exact (decide_eq_false (by grind)).symm | exact decide_eq_decide.2 (by grind) | exact decide_eq_true (by grind) | exact decide_eq_false (by grind) | (exfalso; grind)), ?_⟩)) (by first | exact hc19 | exact Ch.refl _ _)
          ·
            refine TL.guardYes (d := 9) rfl rfl rfl ?_
            refine TL.pickT rfl rfl rfl rfl ?_
            refine TL.pickF rfl rfl rfl rfl ?_
            refine TL.move rfl rfl ?_
            refine TL.guardYes (d := 17) rfl rfl rfl ?_
            refine TL.move rfl rfl ?_
            refine TL.guardYes (d := 17) rfl rfl rfl ?_
            refine TL.call can43 rfl rfl (runes (x : Int) w (by omega) (by omega)) (fun v19 w19 hr19 => ?_)
            obtain ⟨rfl, hc19⟩ := hr19
            refine TL.pickF rfl rfl rfl rfl ?_
            refine TL.notP rfl rfl ?_
            refine TL.assign rfl rfl ?_
            refine TL.done ?_
            exact hK1  _ _ (by repeat (first | exact trivial | refine ⟨rfl, ?_⟩ | refine ⟨congrArg (fun b => some (Value.bool b)) (by first | exact (decide_eq_true (by grind)).symm | exact (decide_eq_false (by grind)).symm | exact decide_eq_decide.2 (by grind) | exact decide_eq_true (by grind) | exact decide_eq_false (by grind) | (exfalso; grind)), ?_⟩)) (by first | exact hc19 | exact Ch.refl _ _)
        ·
          refine TL.guardYes (d := 9) rfl rfl rfl ?_
          refine TL.move rfl rfl ?_
          refine TL.guardNo (d := 12) rfl rfl rfl rfl rfl ?_
          refine TL.guardNo (d := 12) rfl rfl rfl rfl rfl ?_
          refine TL.guardYes (d := 9) rfl rfl rfl ?_
          refine TL.pickF rfl rfl rfl rfl ?_
          refine TL.pickF rfl rfl rfl rfl ?_
          refine TL.move rfl rfl ?_
          refine TL.guardYes (d := 17) rfl rfl rfl ?_
          refine TL.move rfl rfl ?_
          refine TL.guardYes (d := 17) rfl rfl rfl ?_
          refine TL.call can43 rfl rfl (runes (x : Int) w (by omega) (by omega)) (fun v19 w19 hr19 => ?_)
          obtain ⟨rfl, hc19⟩ := hr19
          refine TL.pickF rfl rfl rfl rfl ?_
          refine TL.notP rfl rfl ?_
          refine TL.assign rfl rfl ?_
          refine TL.done ?_
          exact hK1  _ _ (by repeat (first | exact trivial | refine ⟨rfl, ?_⟩ | refine ⟨congrArg (fun b => some (Value.bool b)) (by first | exact (decide_eq_true (by grind)).symm | exact (decide_eq_false (by grind)).symm | exact decide_eq_decide.2 (by grind) | exact decide_eq_true (by grind) | exact decide_eq_false (by grind) | (exfalso; grind)), ?_⟩)) (by first | exact hc19 | exact Ch.refl _ _)
    ·
      refine TL.move rfl rfl ?_
      refine TL.guardNo (d := 5) rfl rfl rfl rfl rfl ?_
      refine TL.guardNo (d := 5) rfl rfl rfl rfl rfl ?_
      refine TL.pickF rfl rfl rfl rfl ?_
      refine TL.move rfl rfl ?_
      refine TL.guardYes (d := 9) rfl rfl rfl ?_
      refine TL.move rfl rfl ?_
      refine TL.guardYes (d := 9) rfl rfl rfl ?_
      refine TL.geq rfl rfl rfl ?_
      refine TL.em (fun e11 => ?_) (fun e11 => ?_)
      ·
        refine TL.guardYes (d := 9) rfl rfl rfl ?_
        refine TL.move rfl rfl ?_
        refine TL.guardYes (d := 12) rfl rfl rfl ?_
        refine TL.move rfl rfl ?_
        refine TL.guardYes (d := 12) rfl rfl rfl ?_
        refine TL.leq rfl rfl rfl ?_
        refine TL.em (fun e14 => ?_) (fun e14 => ?_)
        ·
          refine TL.guardYes (d := 9) rfl rfl rfl ?_
          refine TL.pickT rfl rfl rfl rfl ?_
          refine TL.pickF rfl rfl rfl rfl ?_
          refine TL.move rfl rfl ?_
          refine TL.guardNo (d := 17) rfl rfl rfl rfl rfl ?_
          refine TL.guardNo (d := 17) rfl rfl rfl rfl rfl ?_
          refine TL.pickT rfl rfl rfl rfl ?_
          refine TL.not rfl rfl ?_
          refine TL.assign rfl rfl ?_
          refine TL.done ?_
          exact hK1  _ _ (by repeat (first | exact trivial | refine ⟨rfl, ?_⟩ | refine ⟨congrArg (fun b => some (Value.bool b)) (by first | exact (decide_eq_true (by grind)).symm | exact (decide_eq_false (by grind)).symm | exact decide_eq_decide.2 (by grind) | exact decide_eq_true (by grind) | exact decide_eq_false (by grind) | (exfalso; grind)), ?_⟩)) (by first | exact hc19 | exact Ch.refl _ _)
        ·
          refine TL.guardYes (d := 9) rfl rfl rfl ?_
          refine TL.pickT rfl rfl rfl rfl ?_
          refine TL.pickF rfl rfl rfl rfl ?_
          refine TL.move rfl rfl ?_
          refine TL.guardYes (d := 17) rfl rfl rfl ?_
          refine TL.move rfl rfl ?_
          refine TL.guardYes (d := 17) rfl rfl rfl ?_
          refine TL.call can43 rfl rfl (runes (x : Int) w (by omega) (by omega)) (fun v19 w19 hr19 => ?_)
          obtain ⟨rfl, hc19⟩ := hr19
          refine TL.pickF rfl rfl rfl rfl ?_
          refine TL.notP rfl rfl ?_
          refine TL.assign rfl rfl ?_
          refine TL.done ?_
          exact hK1  _ _ (by repeat (first | exact trivial | refine ⟨rfl, ?_⟩ | refine ⟨congrArg (fun b => some (Value.bool b)) (by first | exact (decide_eq_true (by grind)).symm | exact (decide_eq_false (by grind)).symm | exact decide_eq_decide.2 (by grind) | exact decide_eq_true (by grind) | exact decide_eq_false (by grind) | (exfalso; grind)), ?_⟩)) (by first | exact hc19 | exact Ch.refl _ _)
      ·
        refine TL.guardYes (d := 9) rfl rfl rfl ?_
        refine TL.move rfl rfl ?_
        refine TL.guardNo (d := 12) rfl rfl rfl rfl rfl ?_
        refine TL.guardNo (d := 12) rfl rfl rfl rfl rfl ?_
        refine TL.guardYes (d := 9) rfl rfl rfl ?_
        refine TL.pickF rfl rfl rfl rfl ?_
        refine TL.pickF rfl rfl rfl rfl ?_
        refine TL.move rfl rfl ?_
        refine TL.guardYes (d := 17) rfl rfl rfl ?_
        refine TL.move rfl rfl ?_
        refine TL.guardYes (d := 17) rfl rfl rfl ?_
        refine TL.call can43 rfl rfl (runes (x : Int) w (by omega) (by omega)) (fun v19 w19 hr19 => ?_)
        obtain ⟨rfl, hc19⟩ := hr19
        refine TL.pickF rfl rfl rfl rfl ?_
        refine TL.notP rfl rfl ?_
        refine TL.assign rfl rfl ?_
        refine TL.done ?_
        exact hK1  _ _ (by repeat (first | exact trivial | refine ⟨rfl, ?_⟩ | refine ⟨congrArg (fun b => some (Value.bool b)) (by first | exact (decide_eq_true (by grind)).symm | exact (decide_eq_false (by grind)).symm | exact decide_eq_decide.2 (by grind) | exact decide_eq_true (by grind) | exact decide_eq_false (by grind) | (exfalso; grind)), ?_⟩)) (by first | exact hc19 | exact Ch.refl _ _)
  ·
    refine TC.ret ?_
    refine Ends.ret [2] rfl rfl ?_
    exact ⟨by rw [Wk.okR, ← decide_not]; exact congrArg Value.bool (decide_eq_decide.2 (by omega)), hH⟩

theorem named0 (s : List UInt8) (w : World) : Rets Try.prog 41 #[str s, .func (.func 42) #[] #[]] w (fun v w' => v = .bool (decide (¬ ∀ b ∈ s, Wk.okB b)) ∧ Ch [] w w') := by
  refine (Try.strings_ContainsFunc_grows 42 #[] (fun args w => run_callFunc can42 args w) (fun x => !Wk.okR x) ⟨s.toArray⟩ w (fun W x hx hb => ?_)).mono fun e w' ⟨he, hb⟩ => ⟨_, he, ?_, Ch.ofBelow hb⟩
  · exact Calls.mono (show Calls Try.prog 42 #[.int .i32 (x : Int)] W _ from fn42 x hx W) fun e w' ⟨v, he, hv, hc⟩ => ⟨by rw [he, hv], hc.below⟩
  · exact congrArg Value.bool (decide_eq_decide.2 (Wk.idx_ok s))

theorem fn28 (s : List UInt8) (w : World) : Rets Try.prog 28 #[str s] w (fun v w' => v = .bool (decide (Wk.named s)) ∧ Ch [] w w') := by
  refine Rets.of (n := 16) (vs := [_]) Try.func28 rfl rfl rfl ?_
  refine TC.seq ?_
  refine TC.region ?_
  refine TL.assign rfl rfl ?_
  refine TL.done ?_
  refine Thn.go ?_
  refine TC.cut0 ([(2, .bool (decide (0 < (s.length : Int) ∧ (s.length : Int) ≤ 32 ∧ ∀ b ∈ s, Wk.okB b)))]) (fun w2 => Ch [] w w2) (fun K1 hK1 => ?_) (fun w2 hH => ?_)
  ·
    refine TC.region ?_
    refine TL.move rfl rfl ?_
    refine TL.lenStr Try.underlying9 rfl rfl ?_
    refine TL.gtr rfl rfl rfl ?_
    refine TL.em (fun e5 => ?_) (fun e5 => ?_)
    ·
      refine TL.move rfl rfl ?_
      refine TL.guardYes (d := 6) rfl rfl rfl ?_
      refine TL.move rfl rfl ?_
      refine TL.guardYes (d := 6) rfl rfl rfl ?_
      refine TL.lenStr Try.underlying9 rfl rfl ?_
      refine TL.guardYes (d := 6) rfl rfl rfl ?_
      refine TL.leq rfl rfl rfl ?_
      refine TL.em (fun e9 => ?_) (fun e9 => ?_)
      ·
        refine TL.pickT rfl rfl rfl rfl ?_
        refine TL.move rfl rfl ?_
        refine TL.guardYes (d := 11) rfl rfl rfl ?_
        refine TL.move rfl rfl ?_
        refine TL.guardYes (d := 11) rfl rfl rfl ?_
        refine TL.call can41 rfl rfl (named0 s w) (fun v13 w13 hr13 => ?_)
        obtain ⟨rfl, hc13⟩ := hr13
        refine TL.guardYes (d := 11) rfl rfl rfl ?_
        refine TL.notP rfl rfl ?_
        refine TL.pickT rfl rfl rfl rfl ?_
        refine TL.assign rfl rfl ?_
        refine TL.done ?_
        exact hK1  _ _ (by repeat (first | exact trivial | refine ⟨rfl, ?_⟩ | refine ⟨congrArg (fun b => some (Value.bool b)) (by first | exact (decide_eq_true (by grind)).symm | exact (decide_eq_false (by grind)).symm | exact decide_eq_decide.2 (by grind) | exact decide_eq_true (by grind) | exact decide_eq_false (by grind) | (exfalso; grind)), ?_⟩)) (hc13)
      ·
        refine TL.pickT rfl rfl rfl rfl ?_
        refine TL.move rfl rfl ?_
        refine TL.guardNo (d := 11) rfl rfl rfl rfl rfl ?_
        refine TL.guardNo (d := 11) rfl rfl rfl rfl rfl ?_
        refine TL.guardNo (d := 11) rfl rfl rfl rfl rfl ?_
        refine TL.pickF rfl rfl rfl rfl ?_
        refine TL.assign rfl rfl ?_
        refine TL.done ?_
        exact hK1  _ _ (by repeat (first | exact trivial | refine ⟨rfl, ?_⟩ | refine ⟨congrArg (fun b => some (Value.bool b)) (by first | exact (decide_eq_true (by grind)).symm | exact (decide_eq_false (by grind)).symm | exact decide_eq_decide.2 (by grind) | exact decide_eq_true (by grind) | exact decide_eq_false (by grind) | (exfalso; grind)), ?_⟩)) (Ch.refl _ _)
    ·
      refine TL.move rfl rfl ?_
      refine TL.guardNo (d := 6) rfl rfl rfl rfl rfl ?_
      refine TL.guardNo (d := 6) rfl rfl rfl rfl rfl ?_
      refine TL.guardNo (d := 6) rfl rfl rfl rfl rfl ?_
      refine TL.pickF rfl rfl rfl rfl ?_
      refine TL.move rfl rfl ?_
      refine TL.guardNo (d := 11) rfl rfl rfl rfl rfl ?_
      refine TL.guardNo (d := 11) rfl rfl rfl rfl rfl ?_
      refine TL.guardNo (d := 11) rfl rfl rfl rfl rfl ?_
      refine TL.pickF rfl rfl rfl rfl ?_
      refine TL.assign rfl rfl ?_
      refine TL.done ?_
      exact hK1  _ _ (by repeat (first | exact trivial | refine ⟨rfl, ?_⟩ | refine ⟨congrArg (fun b => some (Value.bool b)) (by first | exact (decide_eq_true (by grind)).symm | exact (decide_eq_false (by grind)).symm | exact decide_eq_decide.2 (by grind) | exact decide_eq_true (by grind) | exact decide_eq_false (by grind) | (exfalso; grind)), ?_⟩)) (Ch.refl _ _)
  ·
    refine TC.ret ?_
    refine Ends.ret [2] rfl rfl ?_
    exact ⟨congrArg Value.bool (decide_eq_decide.2 (by rw [Wk.named]; constructor <;> rintro ⟨k1, k2, k3⟩ <;> exact ⟨by omega, by omega, k3⟩)), hH⟩

