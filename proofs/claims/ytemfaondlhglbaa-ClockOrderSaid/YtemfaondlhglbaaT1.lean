/-
  Walks through the given program: each theorem fnN says what the call of function N of the translation hands back, for all arguments that its premises describe, and that nothing that was there has turned.
-/
import Derived.Test.YtemfaondlhglbaaT0
import Derived.Test.YtemfaondlhglbaaRune
import Derived.Test.YtemfaondlhglbaaRunes
import Derived.Test.YtemfaondlhglbaaShelf
namespace Go.Proofs.Ytemfaondlhglbaa
open Go.Lane
theorem can48 : Callable Try.prog 48 := ⟨Try.f48, Try.func48, by kernel_rfl, rfl⟩
theorem can49 : Callable Try.prog 49 := ⟨Try.f49, Try.func49, by kernel_rfl, rfl⟩
theorem can50 : Callable Try.prog 50 := ⟨Try.f50, Try.func50, by kernel_rfl, rfl⟩
theorem runes (r : Int) (w : World) (h0 : 0 ≤ r) (h1 : r ≤ 1114111) : Rets Try.prog 50 #[.string ⟨#[45, 95, 46]⟩, .int .i32 r] w (fun v w' => v = .bool (decide (r = 45 ∨ r = 95 ∨ r = 46)) ∧ Ch [] w w') := by
  by_cases h : r < 128
  · refine (Try.strings_ContainsRune_ascii ⟨#[45, 95, 46]⟩ r w h0 h).mono fun e w' ⟨he, hw⟩ => ⟨_, he, ?_, by rw [hw]; exact Ch.refl _ _⟩
    rw [decide_eq_decide.2 (Tm.dash_idx r h0 h)]
  · refine (Any.ContainsRune_wide Try.lays151 r w (by omega) h1).mono fun e w' ⟨he, hb⟩ => ⟨_, he, ?_, Ch.ofBelow hb⟩
    rw [decide_eq_false (by omega)]

theorem fn49 (x : Nat) (hx : x ≤ 1114111) (w : World) : Rets Try.prog 49 #[.int .i32 (x : Int)] w (fun v w' => v = .bool (!Tm.okR x) ∧ Ch [] w w') := by
  refine Rets.of (n := 22) (vs := [_]) Try.func49 rfl rfl rfl ?_
  refine TC.seq ?_
  refine TC.region ?_
  refine TL.assign rfl rfl ?_
  refine TL.done ?_
  refine Thn.go ?_
  refine TC.cut0 ([(2, .bool (decide (¬ ((97 ≤ (x : Int) ∧ (x : Int) ≤ 122) ∨ (48 ≤ (x : Int) ∧ (x : Int) ≤ 57) ∨ (x : Int) = 45 ∨ (x : Int) = 95 ∨ (x : Int) = 46))))]) (fun w2 => Ch [] w w2) (fun K1 hK1 => ?_) (fun w2 hH => ?_)
  ·
    refine TC.region ?_
    refine TL.move rfl rfl ?_
    refine TL.geq rfl rfl rfl ?_
    refine TL.em (fun e4 => ?_) (fun e4 => ?_)
    ·
      refine TL.move rfl rfl ?_
      refine TL.guardYes (d := 5) rfl rfl rfl ?_
      refine TL.move rfl rfl ?_
      refine TL.guardYes (d := 5) rfl rfl rfl ?_
      refine TL.leq rfl rfl rfl ?_
      refine TL.em (fun e7 => ?_) (fun e7 => ?_)
      ·
        refine TL.pickT rfl rfl rfl rfl ?_
        refine TL.move rfl rfl ?_
        refine TL.guardNo (d := 9) rfl rfl rfl rfl rfl ?_
        refine TL.guardNo (d := 9) rfl rfl rfl rfl rfl ?_
        refine TL.guardNo (d := 9) rfl rfl rfl rfl rfl ?_
        refine TL.guardUndef (d := 12) rfl rfl rfl rfl ?_
        refine TL.guardUndef (d := 12) rfl rfl rfl rfl ?_
        refine TL.guardNo (d := 9) rfl rfl rfl rfl rfl ?_
        refine TL.pickT rfl rfl rfl rfl ?_
        refine TL.move rfl rfl ?_
        refine TL.guardNo (d := 17) rfl rfl rfl rfl rfl ?_
        refine TL.guardNo (d := 17) rfl rfl rfl rfl rfl ?_
        refine TL.pickT rfl rfl rfl rfl ?_
        refine TL.not rfl rfl ?_
        refine TL.assign rfl rfl ?_
        refine TL.done ?_
        exact hK1  _ _ (by repeat (first | exact trivial | refine ⟨rfl, ?_⟩ | refine ⟨congrArg (fun b => some (Value.bool b)) (by first | exact (decide_eq_true (by grind)).symm | exact (decide_eq_false (by grind)).symm | exact decide_eq_decide.2 (by grind) | exact decide_eq_true (by grind) | exact decide_eq_false (by grind) | (exfalso; grind)), ?_⟩)) (by first | exact hc19 | exact Ch.refl _ _)
      ·
        refine TL.pickT rfl rfl rfl rfl ?_
        refine TL.move rfl rfl ?_
        refine TL.guardYes (d := 9) rfl rfl rfl ?_
        refine TL.move rfl rfl ?_
        refine TL.guardYes (d := 9) rfl rfl rfl ?_
        refine TL.geq rfl rfl rfl ?_
        refine TL.em (fun e11 => ?_) (fun e11 => ?_)
        ·
          refine TL.guardYes (d := 9) rfl rfl rfl ?_
          refine TL.move rfl rfl ?_
          refine TL.guardYes (d := 12) rfl rfl rfl ?_
          refine TL.move rfl rfl ?_
          refine TL.guardYes (d := 12) rfl rfl rfl ?_
          refine TL.leq rfl rfl rfl ?_
          refine TL.em (fun e14 => ?_) (fun e14 => ?_)
          ·
            refine TL.guardYes (d := 9) rfl rfl rfl ?_
            refine TL.pickT rfl rfl rfl rfl ?_
            refine TL.pickF rfl rfl rfl rfl ?_
            refine TL.move rfl rfl ?_
            refine TL.guardNo (d := 17) rfl rfl rfl rfl rfl ?_
            refine TL.guardNo (d := 17) rfl rfl rfl rfl rfl ?_
            refine TL.pickT rfl rfl rfl rfl ?_
            refine TL.not rfl rfl ?_
            refine TL.assign rfl rfl ?_
            refine TL.done ?_
            exact hK1  _ _ (by repeat (first | exact trivial | refine ⟨rfl, ?_⟩ | refine ⟨congrArg (fun b => some (Value.bool b)) (by first | exact (decide_eq_true (by grind)).symm | exact (decide_eq_false (by grind)).symm | exact decide_eq_decide.2 (by grind) | exact decide_eq_true (by grind) | exact decide_eq_false (by grind) | (exfalso; grind)), ?_⟩)) (by first | exact hc19 | exact Ch.refl _ _)
          ·
            refine TL.guardYes (d := 9) rfl rfl rfl ?_
            refine TL.pickT rfl rfl rfl rfl ?_
            refine TL.pickF rfl rfl rfl rfl ?_
            refine TL.move rfl rfl ?_
            refine TL.guardYes (d := 17) rfl rfl rfl ?_
            refine TL.move rfl rfl ?_
            refine TL.guardYes (d := 17) rfl rfl rfl ?_
            refine TL.call can50 rfl rfl (runes (x : Int) w (by omega) (by omega)) (fun v19 w19 hr19 => ?_)
            obtain ⟨rfl, hc19⟩ := hr19
            refine TL.pickF rfl rfl rfl rfl ?_
            refine TL.notP rfl rfl ?_
            refine TL.assign rfl rfl ?_
            refine TL.done ?_
            exact hK1  _ _ (by repeat (first | exact trivial | refine ⟨rfl, ?_⟩ | refine ⟨congrArg (fun b => some (Value.bool b)) (by first | exact (decide_eq_true (by grind)).symm | exact (decide_eq_false (by grind)).symm | exact decide_eq_decide.2 (by grind) | exact decide_eq_true (by grind) | exact decide_eq_false (by grind) | (exfalso; grind)), ?_⟩)) (by first | exact hc19 | exact Ch.refl _ _)
        ·
          refine TL.guardYes (d := 9) rfl rfl rfl ?_
          refine TL.move rfl rfl ?_
          refine TL.guardNo (d := 12) rfl rfl rfl rfl rfl ?_
          refine TL.guardNo (d := 12) rfl rfl rfl rfl rfl ?_
          refine TL.guardYes (d := 9) rfl rfl rfl ?_
          refine TL.pickF rfl rfl rfl rfl ?_
          refine TL.pickF rfl rfl rfl rfl ?_
          refine TL.move rfl rfl ?_
          refine TL.guardYes (d := 17) rfl rfl rfl ?_
          refine TL.move rfl rfl ?_
          refine TL.guardYes (d := 17) rfl rfl rfl ?_
          refine TL.call can50 rfl rfl (runes (x : Int) w (by omega) (by omega)) (fun v19 w19 hr19 => ?_)
          obtain ⟨rfl, hc19⟩ := hr19
          refine TL.pickF rfl rfl rfl rfl ?_
          refine TL.notP rfl rfl ?_
          refine TL.assign rfl rfl ?_
          refine TL.done ?_
          exact hK1  _ _ (by repeat (first | exact trivial | refine ⟨rfl, ?_⟩ | refine ⟨congrArg (fun b => some (Value.bool b)) (by first | exact (decide_eq_true (by grind)).symm | exact (decide_eq_false (by grind)).symm | exact decide_eq_decide.2 (by grind) | exact decide_eq_true (by grind) | exact decide_eq_false (by grind) | (exfalso; grind)), ?_⟩)) (by first | exact hc19 | exact Ch.refl _ _)
    ·
      refine TL.move rfl rfl ?_
      refine TL.guardNo (d := 5) rfl rfl rfl rfl rfl ?_
      refine TL.guardNo (d := 5) rfl rfl rfl rfl rfl ?_
      refine TL.pickF rfl rfl rfl rfl ?_
      refine TL.move rfl rfl ?_
      refine TL.guardYes (d := 9) rfl rfl rfl ?_
      refine TL.move rfl rfl ?_
      refine TL.guardYes (d := 9) rfl rfl rfl ?_
      refine TL.geq rfl rfl rfl ?_
      refine TL.em (fun e11 => ?_) (fun e11 => ?_)
      ·
        refine TL.guardYes (d := 9) rfl rfl rfl ?_
        refine TL.move rfl rfl ?_
        refine TL.guardYes (d := 12) rfl rfl rfl ?_
        refine TL.move rfl rfl ?_
        refine TL.guardYes (d := 12) rfl rfl rfl ?_
        refine TL.leq rfl rfl rfl ?_
        refine TL.em (fun e14 => ?_) (fun e14 => ?_)
        ·
          refine TL.guardYes (d := 9) rfl rfl rfl ?_
          refine TL.pickT rfl rfl rfl rfl ?_
          refine TL.pickF rfl rfl rfl rfl ?_
          refine TL.move rfl rfl ?_
          refine TL.guardNo (d := 17) rfl rfl rfl rfl rfl ?_
          refine TL.guardNo (d := 17) rfl rfl rfl rfl rfl ?_
          refine TL.pickT rfl rfl rfl rfl ?_
          refine TL.not rfl rfl ?_
          refine TL.assign rfl rfl ?_
          refine TL.done ?_
          exact hK1  _ _ (by repeat (first | exact trivial | refine ⟨rfl, ?_⟩ | refine ⟨congrArg (fun b => some (Value.bool b)) (by first | exact (decide_eq_true (by grind)).symm | exact (decide_eq_false (by grind)).symm | exact decide_eq_decide.2 (by grind) | exact decide_eq_true (by grind) | exact decide_eq_false (by grind) | (exfalso; grind)), ?_⟩)) (by first | exact hc19 | exact Ch.refl _ _)
        ·
          refine TL.guardYes (d := 9) rfl rfl rfl ?_
          refine TL.pickT rfl rfl rfl rfl ?_
          refine TL.pickF rfl rfl rfl rfl ?_
          refine TL.move rfl rfl ?_
          refine TL.guardYes (d := 17) rfl rfl rfl ?_
          refine TL.move rfl rfl ?_
          refine TL.guardYes (d := 17) rfl rfl rfl ?_
          refine TL.call can50 rfl rfl (runes (x : Int) w (by omega) (by omega)) (fun v19 w19 hr19 => ?_)
          obtain ⟨rfl, hc19⟩ := hr19
          refine TL.pickF rfl rfl rfl rfl ?_
          refine TL.notP rfl rfl ?_
          refine TL.assign rfl rfl ?_
          refine TL.done ?_
          exact hK1  _ _ (by repeat (first | exact trivial | refine ⟨rfl, ?_⟩ | refine ⟨congrArg (fun b => some (Value.bool b)) (by first | exact (decide_eq_true (by grind)).symm | exact (decide_eq_false (by grind)).symm | exact decide_eq_decide.2 (by grind) | exact decide_eq_true (by grind) | exact decide_eq_false (by grind) | (exfalso; grind)), ?_⟩)) (by first | exact hc19 | exact Ch.refl _ _)
      ·
        refine TL.guardYes (d := 9) rfl rfl rfl ?_
        refine TL.move rfl rfl ?_
        refine TL.guardNo (d := 12) rfl rfl rfl rfl rfl ?_
        refine TL.guardNo (d := 12) rfl rfl rfl rfl rfl ?_
        refine TL.guardYes (d := 9) rfl rfl rfl ?_
        refine TL.pickF rfl rfl rfl rfl ?_
        refine TL.pickF rfl rfl rfl rfl ?_
        refine TL.move rfl rfl ?_
        refine TL.guardYes (d := 17) rfl rfl rfl ?_
        refine TL.move rfl rfl ?_
        refine TL.guardYes (d := 17) rfl rfl rfl ?_
        refine TL.call can50 rfl rfl (runes (x : Int) w (by omega) (by omega)) (fun v19 w19 hr19 => ?_)
        obtain ⟨rfl, hc19⟩ := hr19
        refine TL.pickF rfl rfl rfl rfl ?_
        refine TL.notP rfl rfl ?_
        refine TL.assign rfl rfl ?_
        refine TL.done ?_
        exact hK1  _ _ (by repeat (first | exact trivial | refine ⟨rfl, ?_⟩ | refine ⟨congrArg (fun b => some (Value.bool b)) (by first | exact (decide_eq_true (by grind)).symm | exact (decide_eq_false (by grind)).symm | exact decide_eq_decide.2 (by grind) | exact decide_eq_true (by grind) | exact decide_eq_false (by grind) | (exfalso; grind)), ?_⟩)) (by first | exact hc19 | exact Ch.refl _ _)
  ·
    refine TC.ret ?_
    refine Ends.ret [2] rfl rfl ?_
    exact ⟨by rw [Tm.okR, ← decide_not]; exact congrArg Value.bool (decide_eq_decide.2 (by omega)), hH⟩

theorem named0 (s : List UInt8) (w : World) : Rets Try.prog 48 #[str s, .func (.func 49) #[] #[]] w (fun v w' => v = .bool (decide (¬ ∀ b ∈ s, Tm.okB b)) ∧ Ch [] w w') := by
  refine (Try.strings_ContainsFunc_grows 49 #[] (fun args w => run_callFunc can49 args w) (fun x => !Tm.okR x) ⟨s.toArray⟩ w (fun W x hx hb => ?_)).mono fun e w' ⟨he, hb⟩ => ⟨_, he, ?_, Ch.ofBelow hb⟩
  · exact Calls.mono (show Calls Try.prog 49 #[.int .i32 (x : Int)] W _ from fn49 x hx W) fun e w' ⟨v, he, hv, hc⟩ => ⟨by rw [he, hv], hc.below⟩
  · exact congrArg Value.bool (decide_eq_decide.2 (Tm.idx_ok s))

theorem fn42 (s : List UInt8) (w : World) : Rets Try.prog 42 #[str s] w (fun v w' => v = .bool (decide (Tm.named s)) ∧ Ch [] w w') := by
  refine Rets.of (n := 16) (vs := [_]) Try.func42 rfl rfl rfl ?_
  refine TC.seq ?_
  refine TC.region ?_
  refine TL.assign rfl rfl ?_
  refine TL.done ?_
  refine Thn.go ?_
  refine TC.cut0 ([(2, .bool (decide (0 < (s.length : Int) ∧ (s.length : Int) ≤ 32 ∧ ∀ b ∈ s, Tm.okB b)))]) (fun w2 => Ch [] w w2) (fun K1 hK1 => ?_) (fun w2 hH => ?_)
  ·
    refine TC.region ?_
    refine TL.move rfl rfl ?_
    refine TL.lenStr Try.underlying9 rfl rfl ?_
    refine TL.gtr rfl rfl rfl ?_
    refine TL.em (fun e5 => ?_) (fun e5 => ?_)
    ·
      refine TL.move rfl rfl ?_
      refine TL.guardYes (d := 6) rfl rfl rfl ?_
      refine TL.move rfl rfl ?_
      refine TL.guardYes (d := 6) rfl rfl rfl ?_
      refine TL.lenStr Try.underlying9 rfl rfl ?_
      refine TL.guardYes (d := 6) rfl rfl rfl ?_
      refine TL.leq rfl rfl rfl ?_
      refine TL.em (fun e9 => ?_) (fun e9 => ?_)
      ·
        refine TL.pickT rfl rfl rfl rfl ?_
        refine TL.move rfl rfl ?_
        refine TL.guardYes (d := 11) rfl rfl rfl ?_
        refine TL.move rfl rfl ?_
        refine TL.guardYes (d := 11) rfl rfl rfl ?_
        refine TL.call can48 rfl rfl (named0 s w) (fun v13 w13 hr13 => ?_)
        obtain ⟨rfl, hc13⟩ := hr13
        refine TL.guardYes (d := 11) rfl rfl rfl ?_
        refine TL.notP rfl rfl ?_
        refine TL.pickT rfl rfl rfl rfl ?_
        refine TL.assign rfl rfl ?_
        refine TL.done ?_
        exact hK1  _ _ (by repeat (first | exact trivial | refine ⟨rfl, ?_⟩ | refine ⟨congrArg (fun b => some (Value.bool b)) (by first | exact (decide_eq_true (by grind)).symm | exact (decide_eq_false (by grind)).symm | exact decide_eq_decide.2 (by grind) | exact decide_eq_true (by grind) | exact decide_eq_false (by grind) | (exfalso; grind)), ?_⟩)) (hc13)
      ·
        refine TL.pickT rfl rfl rfl rfl ?_
        refine TL.move rfl rfl ?_
        refine TL.guardNo (d := 11) rfl rfl rfl rfl rfl ?_
        refine TL.guardNo (d := 11) rfl rfl rfl rfl rfl ?_
        refine TL.guardNo (d := 11) rfl rfl rfl rfl rfl ?_
        refine TL.pickF rfl rfl rfl rfl ?_
        refine TL.assign rfl rfl ?_
        refine TL.done ?_
        exact hK1  _ _ (by repeat (first | exact trivial | refine ⟨rfl, ?_⟩ | refine ⟨congrArg (fun b => some (Value.bool b)) (by first | exact (decide_eq_true (by grind)).symm | exact (decide_eq_false (by grind)).symm | exact decide_eq_decide.2 (by grind) | exact decide_eq_true (by grind) | exact decide_eq_false (by grind) | (exfalso; grind)), ?_⟩)) (Ch.refl _ _)
    ·
      refine TL.move rfl rfl ?_
      refine TL.guardNo (d := 6) rfl rfl rfl rfl rfl ?_
      refine TL.guardNo (d := 6) rfl rfl rfl rfl rfl ?_
      refine TL.guardNo (d := 6) rfl rfl rfl rfl rfl ?_
      refine TL.pickF rfl rfl rfl rfl ?_
      refine TL.move rfl rfl ?_
      refine TL.guardNo (d := 11) rfl rfl rfl rfl rfl ?_
      refine TL.guardNo (d := 11) rfl rfl rfl rfl rfl ?_
      refine TL.guardNo (d := 11) rfl rfl rfl rfl rfl ?_
      refine TL.pickF rfl rfl rfl rfl ?_
      refine TL.assign rfl rfl ?_
      refine TL.done ?_
      exact hK1  _ _ (by repeat (first | exact trivial | refine ⟨rfl, ?_⟩ | refine ⟨congrArg (fun b => some (Value.bool b)) (by first | exact (decide_eq_true (by grind)).symm | exact (decide_eq_false (by grind)).symm | exact decide_eq_decide.2 (by grind) | exact decide_eq_true (by grind) | exact decide_eq_false (by grind) | (exfalso; grind)), ?_⟩)) (Ch.refl _ _)
  ·
    refine TC.ret ?_
    refine Ends.ret [2] rfl rfl ?_
    exact ⟨congrArg Value.bool (decide_eq_decide.2 (by rw [Tm.named]; constructor <;> rintro ⟨k1, k2, k3⟩ <;> exact ⟨by omega, by omega, k3⟩)), hH⟩

