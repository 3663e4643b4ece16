/-
  Walks through the given program: each theorem fnN says what the call of function N of the translation hands back, for all arguments that its premises describe, and that nothing that was there has turned.
-/
import Derived.Test.YtjnagpddiemdhaaW1
namespace Go.Proofs.Ytjnagpddiemdhaa
open Go.Lane
theorem can28 : Callable Try.prog 28 := ⟨Try.f28, Try.func28, by kernel_rfl, rfl⟩
theorem can31 : Callable Try.prog 31 := ⟨Try.f31, Try.func31, by kernel_rfl, rfl⟩
theorem fd33k0 : FieldT Try.prog 33 0 3 0 1 := ⟨_, _, Try.underlying33, rfl, rfl, rfl, by kernel_rfl, by decide⟩
theorem fd33k1 : FieldT Try.prog 33 1 3 1 1 := ⟨_, _, Try.underlying33, rfl, rfl, rfl, by kernel_rfl, by decide⟩
theorem fd33k2 : FieldT Try.prog 33 2 9 2 1 := ⟨_, _, Try.underlying33, rfl, rfl, rfl, by kernel_rfl, by decide⟩
theorem fd33k3 : FieldT Try.prog 33 3 9 3 1 := ⟨_, _, Try.underlying33, rfl, rfl, rfl, by kernel_rfl, by decide⟩
theorem fd33k4 : FieldT Try.prog 33 4 5 4 1 := ⟨_, _, Try.underlying33, rfl, rfl, rfl, by kernel_rfl, by decide⟩
theorem fd33k5 : FieldT Try.prog 33 5 9 5 1 := ⟨_, _, Try.underlying33, rfl, rfl, rfl, by kernel_rfl, by decide⟩
theorem pl3 : Plain Try.prog 3 := ⟨_, Try.underlying3, rfl⟩
theorem pl5 : Plain Try.prog 5 := ⟨_, Try.underlying5, rfl⟩
theorem pl9 : Plain Try.prog 9 := ⟨_, Try.underlying9, rfl⟩

theorem fn31 (s : List UInt8) (w : World) : Rets Try.prog 31 #[str s] w (fun v w' => v = .bool (decide (Wk.named s)) ∧ w' = w) := by
  have hmm : maxLen = 9223372036854775807 := rfl
  have hnil : s = [] ↔ s.length = 0 := List.length_eq_zero_iff.symm
  refine Rets.of (n := 48) (vs := [_]) Try.func31 rfl rfl rfl ?_
  refine TC.seq ?_
  refine TC.region ?_
  refine TL.assign rfl rfl ?_
  refine TL.done ?_
  refine Thn.go ?_
  refine TC.seq ?_
  refine TC.regionBool (d := 11) (p := (s.length = 0 ∨ 32 < s.length)) (fun K1 hK1 => ?_) ?_
  ·
    refine TL.move rfl rfl ?_
    refine TL.eqlStr rfl rfl rfl ?_
    refine TL.em (fun e6 => ?_) (fun e6 => ?_)
    ·
      refine TL.move rfl rfl ?_
      refine TL.guardNo (d := 7) rfl rfl rfl rfl rfl ?_
      refine TL.guardNo (d := 7) rfl rfl rfl rfl rfl ?_
      refine TL.guardNo (d := 7) rfl rfl rfl rfl rfl ?_
      refine TL.pickT rfl rfl rfl rfl ?_
      refine TL.done ?_
      refine hK1 _ ?_
      refine Le.here rfl (by first | exact decide_eq_true (by omega) | exact decide_eq_false (by omega) | exact decide_eq_decide.2 (by omega) | exact decide_eq_true (by grind) | exact decide_eq_false (by grind) | exact decide_eq_decide.2 (by grind)) ?_
      repeat (first | exact Le.refl _ | refine Le.skip rfl ?_)
    ·
      refine TL.move rfl rfl ?_
      refine TL.guardYes (d := 7) rfl rfl rfl ?_
      refine TL.move rfl rfl ?_
      refine TL.guardYes (d := 7) rfl rfl rfl ?_
      refine TL.lenStr Try.underlying9 rfl rfl ?_
      refine TL.guardYes (d := 7) rfl rfl rfl ?_
      refine TL.gtr rfl rfl rfl ?_
      refine TL.pickF rfl rfl rfl rfl ?_
      refine TL.done ?_
      refine hK1 _ ?_
      refine Le.here rfl (by first | exact decide_eq_true (by omega) | exact decide_eq_false (by omega) | exact decide_eq_decide.2 (by omega) | exact decide_eq_true (by grind) | exact decide_eq_false (by grind) | exact decide_eq_decide.2 (by grind)) ?_
      repeat (first | exact Le.refl _ | refine Le.skip rfl ?_)
  refine TC.condP rfl (fun h3 => ?_) (fun h3 => ?_)
  ·
    have hor : s.length = 0 ∨ 32 < s.length := by assumption
    refine TC.seq ?_
    refine TC.region ?_
    refine TL.assign rfl rfl ?_
    refine TL.done ?_
    refine Thn.go ?_
    refine TC.ret ?_
    refine Thn.ret ?_
    refine Ends.ret [2] rfl rfl ?_
    exact ⟨congrArg Value.bool (decide_eq_false (fun h => by have := h.1; have := h.2.1; omega)).symm, rfl⟩
  ·
    have hor : ¬ (s.length = 0 ∨ 32 < s.length) := by assumption
    refine TC.skip ?_
    refine Thn.go ?_
    refine TC.seq ?_
    refine TC.seq ?_
    refine TC.region ?_
    refine TL.assign rfl rfl ?_
    refine TL.done ?_
    refine Thn.go ?_
    refine TC.block ?_
    refine TC.loop1 (fun (i : Nat) => [(0, str s), (3, .int .i64 (i : Int))]) (fun i w' => i ≤ s.length ∧ (∀ j, (h : j < s.length) → j < i → Wk.okB s[j]) ∧ w' = w) (fun i => s.length - i) 0 (by repeat (first | exact trivial | refine ⟨rfl, ?_⟩)) (⟨by omega, by intro j _ hj; omega, rfl⟩) (fun i w' hH => ?_)
    obtain ⟨hi, hg, hw'⟩ := hH
    subst hw'
    refine TC.seq ?_
    refine TC.seq ?_
    refine TC.region ?_
    refine TL.move rfl rfl ?_
    refine TL.move rfl rfl ?_
    refine TL.lenStr Try.underlying9 rfl rfl ?_
    refine TL.lss rfl rfl rfl ?_
    refine TL.done ?_
    refine Thn.go ?_
    refine TC.condP rfl (fun h4 => ?_) (fun h4 => ?_)
    ·
      have hil : i < s.length := by omega
      obtain ⟨b, hb⟩ : ∃ b, s[i] = b := ⟨_, rfl⟩
      have hbi : Wk.okB b ↔ (97 ≤ b.toNat ∧ b.toNat ≤ 122) ∨ (48 ≤ b.toNat ∧ b.toNat ≤ 57) ∨ b.toNat = 45 ∨ b.toNat = 95 ∨ b.toNat = 46 := Iff.rfl
      refine TC.skip ?_
      refine Thn.go ?_
      refine TC.seq ?_
      refine TC.block ?_
      refine TC.seq ?_
      refine TC.region ?_
      refine TL.move rfl rfl ?_
      refine TL.move rfl rfl ?_
      refine TL.indexStr Try.underlying9 rfl rfl rfl ((List.getElem?_eq_getElem hil).trans (congrArg some hb)) rfl ?_
      refine TL.assign rfl rfl ?_
      refine TL.done ?_
      refine Thn.go ?_
      refine TC.regionBool (d := 47) (p := ¬ Wk.okB b) (fun K5 hK5 => ?_) ?_
      ·
        refine TL.move rfl rfl ?_
        refine TL.geq rfl rfl rfl ?_
        refine TL.em (fun e22 => ?_) (fun e22 => ?_)
        ·
          refine TL.move rfl rfl ?_
          refine TL.guardYes (d := 23) rfl rfl rfl ?_
          refine TL.move rfl rfl ?_
          refine TL.guardYes (d := 23) rfl rfl rfl ?_
          refine TL.leq rfl rfl rfl ?_
          refine TL.em (fun e25 => ?_) (fun e25 => ?_)
          ·
            refine TL.pickT rfl rfl rfl rfl ?_
            refine TL.move rfl rfl ?_
            refine TL.guardNo (d := 27) rfl rfl rfl rfl rfl ?_
            refine TL.guardNo (d := 27) rfl rfl rfl rfl rfl ?_
            refine TL.guardNo (d := 27) rfl rfl rfl rfl rfl ?_
            refine TL.guardUndef (d := 30) rfl rfl rfl rfl ?_
            refine TL.guardUndef (d := 30) rfl rfl rfl rfl ?_
            refine TL.guardNo (d := 27) rfl rfl rfl rfl rfl ?_
            refine TL.pickT rfl rfl rfl rfl ?_
            refine TL.move rfl rfl ?_
            refine TL.guardNo (d := 35) rfl rfl rfl rfl rfl ?_
            refine TL.guardNo (d := 35) rfl rfl rfl rfl rfl ?_
            refine TL.pickT rfl rfl rfl rfl ?_
            refine TL.move rfl rfl ?_
            refine TL.guardNo (d := 39) rfl rfl rfl rfl rfl ?_
            refine TL.guardNo (d := 39) rfl rfl rfl rfl rfl ?_
            refine TL.pickT rfl rfl rfl rfl ?_
            refine TL.move rfl rfl ?_
            refine TL.guardNo (d := 43) rfl rfl rfl rfl rfl ?_
            refine TL.guardNo (d := 43) rfl rfl rfl rfl rfl ?_
            refine TL.pickT rfl rfl rfl rfl ?_
            refine TL.not rfl rfl ?_
            refine TL.done ?_
            refine hK5 _ ?_
            refine Le.here rfl (by first | exact decide_eq_true (by omega) | exact decide_eq_false (by omega) | exact decide_eq_decide.2 (by omega) | exact decide_eq_true (by grind) | exact decide_eq_false (by grind) | exact decide_eq_decide.2 (by grind)) ?_
            repeat (first | exact Le.refl _ | refine Le.skip rfl ?_)
          ·
            refine TL.pickT rfl rfl rfl rfl ?_
            refine TL.move rfl rfl ?_
            refine TL.guardYes (d := 27) rfl rfl rfl ?_
            refine TL.move rfl rfl ?_
            refine TL.guardYes (d := 27) rfl rfl rfl ?_
            refine TL.geq rfl rfl rfl ?_
            refine TL.em (fun e29 => ?_) (fun e29 => ?_)
            ·
              refine TL.guardYes (d := 27) rfl rfl rfl ?_
              refine TL.move rfl rfl ?_
              refine TL.guardYes (d := 30) rfl rfl rfl ?_
              refine TL.move rfl rfl ?_
              refine TL.guardYes (d := 30) rfl rfl rfl ?_
              refine TL.leq rfl rfl rfl ?_
              refine TL.em (fun e32 => ?_) (fun e32 => ?_)
              ·
                refine TL.guardYes (d := 27) rfl rfl rfl ?_
                refine TL.pickT rfl rfl rfl rfl ?_
                refine TL.pickF rfl rfl rfl rfl ?_
                refine TL.move rfl rfl ?_
                refine TL.guardNo (d := 35) rfl rfl rfl rfl rfl ?_
                refine TL.guardNo (d := 35) rfl rfl rfl rfl rfl ?_
                refine TL.pickT rfl rfl rfl rfl ?_
                refine TL.move rfl rfl ?_
                refine TL.guardNo (d := 39) rfl rfl rfl rfl rfl ?_
                refine TL.guardNo (d := 39) rfl rfl rfl rfl rfl ?_
                refine TL.pickT rfl rfl rfl rfl ?_
                refine TL.move rfl rfl ?_
                refine TL.guardNo (d := 43) rfl rfl rfl rfl rfl ?_
                refine TL.guardNo (d := 43) rfl rfl rfl rfl rfl ?_
                refine TL.pickT rfl rfl rfl rfl ?_
                refine TL.not rfl rfl ?_
                refine TL.done ?_
                refine hK5 _ ?_
                refine Le.here rfl (by first | exact decide_eq_true (by omega) | exact decide_eq_false (by omega) | exact decide_eq_decide.2 (by omega) | exact decide_eq_true (by grind) | exact decide_eq_false (by grind) | exact decide_eq_decide.2 (by grind)) ?_
                repeat (first | exact Le.refl _ | refine Le.skip rfl ?_)
              ·
                refine TL.guardYes (d := 27) rfl rfl rfl ?_
                refine TL.pickT rfl rfl rfl rfl ?_
                refine TL.pickF rfl rfl rfl rfl ?_
                refine TL.move rfl rfl ?_
                refine TL.guardYes (d := 35) rfl rfl rfl ?_
                refine TL.move rfl rfl ?_
                refine TL.guardYes (d := 35) rfl rfl rfl ?_
                refine TL.eql rfl rfl rfl ?_
                refine TL.em (fun e37 => ?_) (fun e37 => ?_)
                ·
                  refine TL.pickF rfl rfl rfl rfl ?_
                  refine TL.move rfl rfl ?_
                  refine TL.guardNo (d := 39) rfl rfl rfl rfl rfl ?_
                  refine TL.guardNo (d := 39) rfl rfl rfl rfl rfl ?_
                  refine TL.pickT rfl rfl rfl rfl ?_
                  refine TL.move rfl rfl ?_
                  refine TL.guardNo (d := 43) rfl rfl rfl rfl rfl ?_
                  refine TL.guardNo (d := 43) rfl rfl rfl rfl rfl ?_
                  refine TL.pickT rfl rfl rfl rfl ?_
                  refine TL.not rfl rfl ?_
                  refine TL.done ?_
                  refine hK5 _ ?_
                  refine Le.here rfl (by first | exact decide_eq_true (by omega) | exact decide_eq_false (by omega) | exact decide_eq_decide.2 (by omega) | exact decide_eq_true (by grind) | exact decide_eq_false (by grind) | exact decide_eq_decide.2 (by grind)) ?_
                  repeat (first | exact Le.refl _ | refine Le.skip rfl ?_)
                ·
                  refine TL.pickF rfl rfl rfl rfl ?_
                  refine TL.move rfl rfl ?_
                  refine TL.guardYes (d := 39) rfl rfl rfl ?_
                  refine TL.move rfl rfl ?_
                  refine TL.guardYes (d := 39) rfl rfl rfl ?_
                  refine TL.eql rfl rfl rfl ?_
                  refine TL.em (fun e41 => ?_) (fun e41 => ?_)
                  ·
                    refine TL.pickF rfl rfl rfl rfl ?_
                    refine TL.move rfl rfl ?_
                    refine TL.guardNo (d := 43) rfl rfl rfl rfl rfl ?_
                    refine TL.guardNo (d := 43) rfl rfl rfl rfl rfl ?_
                    refine TL.pickT rfl rfl rfl rfl ?_
                    refine TL.not rfl rfl ?_
                    refine TL.done ?_
                    refine hK5 _ ?_
                    refine Le.here rfl (by first | exact decide_eq_true (by omega) | exact decide_eq_false (by omega) | exact decide_eq_decide.2 (by omega) | exact decide_eq_true (by grind) | exact decide_eq_false (by grind) | exact decide_eq_decide.2 (by grind)) ?_
                    repeat (first | exact Le.refl _ | refine Le.skip rfl ?_)
                  ·
                    refine TL.pickF rfl rfl rfl rfl ?_
                    refine TL.move rfl rfl ?_
                    refine TL.guardYes (d := 43) rfl rfl rfl ?_
                    refine TL.move rfl rfl ?_
                    refine TL.guardYes (d := 43) rfl rfl rfl ?_
                    refine TL.eql rfl rfl rfl ?_
                    refine TL.pickF rfl rfl rfl rfl ?_
                    refine TL.notP rfl rfl ?_
                    refine TL.done ?_
                    refine hK5 _ ?_
                    refine Le.here rfl (by first | exact decide_eq_true (by omega) | exact decide_eq_false (by omega) | exact decide_eq_decide.2 (by omega) | exact decide_eq_true (by grind) | exact decide_eq_false (by grind) | exact decide_eq_decide.2 (by grind)) ?_
                    repeat (first | exact Le.refl _ | refine Le.skip rfl ?_)
            ·
              refine TL.guardYes (d := 27) rfl rfl rfl ?_
              refine TL.move rfl rfl ?_
              refine TL.guardNo (d := 30) rfl rfl rfl rfl rfl ?_
              refine TL.guardNo (d := 30) rfl rfl rfl rfl rfl ?_
              refine TL.guardYes (d := 27) rfl rfl rfl ?_
              refine TL.pickF rfl rfl rfl rfl ?_
              refine TL.pickF rfl rfl rfl rfl ?_
              refine TL.move rfl rfl ?_
              refine TL.guardYes (d := 35) rfl rfl rfl ?_
              refine TL.move rfl rfl ?_
              refine TL.guardYes (d := 35) rfl rfl rfl ?_
              refine TL.eql rfl rfl rfl ?_
              refine TL.em (fun e37 => ?_) (fun e37 => ?_)
              ·
                refine TL.pickF rfl rfl rfl rfl ?_
                refine TL.move rfl rfl ?_
                refine TL.guardNo (d := 39) rfl rfl rfl rfl rfl ?_
                refine TL.guardNo (d := 39) rfl rfl rfl rfl rfl ?_
                refine TL.pickT rfl rfl rfl rfl ?_
                refine TL.move rfl rfl ?_
                refine TL.guardNo (d := 43) rfl rfl rfl rfl rfl ?_
                refine TL.guardNo (d := 43) rfl rfl rfl rfl rfl ?_
                refine TL.pickT rfl rfl rfl rfl ?_
                refine TL.not rfl rfl ?_
                refine TL.done ?_
                refine hK5 _ ?_
                refine Le.here rfl (by first | exact decide_eq_true (by omega) | exact decide_eq_false (by omega) | exact decide_eq_decide.2 (by omega) | exact decide_eq_true (by grind) | exact decide_eq_false (by grind) | exact decide_eq_decide.2 (by grind)) ?_
                repeat (first | exact Le.refl _ | refine Le.skip rfl ?_)
              ·
                refine TL.pickF rfl rfl rfl rfl ?_
                refine TL.move rfl rfl ?_
                refine TL.guardYes (d := 39) rfl rfl rfl ?_
                refine TL.move rfl rfl ?_
                refine TL.guardYes (d := 39) rfl rfl rfl ?_
                refine TL.eql rfl rfl rfl ?_
                refine TL.em (fun e41 => ?_) (fun e41 => ?_)
                ·
                  refine TL.pickF rfl rfl rfl rfl ?_
                  refine TL.move rfl rfl ?_
                  refine TL.guardNo (d := 43) rfl rfl rfl rfl rfl ?_
                  refine TL.guardNo (d := 43) rfl rfl rfl rfl rfl ?_
                  refine TL.pickT rfl rfl rfl rfl ?_
                  refine TL.not rfl rfl ?_
                  refine TL.done ?_
                  refine hK5 _ ?_
                  refine Le.here rfl (by first | exact decide_eq_true (by omega) | exact decide_eq_false (by omega) | exact decide_eq_decide.2 (by omega) | exact decide_eq_true (by grind) | exact decide_eq_false (by grind) | exact decide_eq_decide.2 (by grind)) ?_
                  repeat (first | exact Le.refl _ | refine Le.skip rfl ?_)
                ·
                  refine TL.pickF rfl rfl rfl rfl ?_
                  refine TL.move rfl rfl ?_
                  refine TL.guardYes (d := 43) rfl rfl rfl ?_
                  refine TL.move rfl rfl ?_
                  refine TL.guardYes (d := 43) rfl rfl rfl ?_
                  refine TL.eql rfl rfl rfl ?_
                  refine TL.pickF rfl rfl rfl rfl ?_
                  refine TL.notP rfl rfl ?_
                  refine TL.done ?_
                  refine hK5 _ ?_
                  refine Le.here rfl (by first | exact decide_eq_true (by omega) | exact decide_eq_false (by omega) | exact decide_eq_decide.2 (by omega) | exact decide_eq_true (by grind) | exact decide_eq_false (by grind) | exact decide_eq_decide.2 (by grind)) ?_
                  repeat (first | exact Le.refl _ | refine Le.skip rfl ?_)
        ·
          refine TL.move rfl rfl ?_
          refine TL.guardNo (d := 23) rfl rfl rfl rfl rfl ?_
          refine TL.guardNo (d := 23) rfl rfl rfl rfl rfl ?_
          refine TL.pickF rfl rfl rfl rfl ?_
          refine TL.move rfl rfl ?_
          refine TL.guardYes (d := 27) rfl rfl rfl ?_
          refine TL.move rfl rfl ?_
          refine TL.guardYes (d := 27) rfl rfl rfl ?_
          refine TL.geq rfl rfl rfl ?_
          refine TL.em (fun e29 => ?_) (fun e29 => ?_)
          ·
            refine TL.guardYes (d := 27) rfl rfl rfl ?_
            refine TL.move rfl rfl ?_
            refine TL.guardYes (d := 30) rfl rfl rfl ?_
            refine TL.move rfl rfl ?_
            refine TL.guardYes (d := 30) rfl rfl rfl ?_
            refine TL.leq rfl rfl rfl ?_
            refine TL.em (fun e32 => ?_) (fun e32 => ?_)
            ·
              refine TL.guardYes (d := 27) rfl rfl rfl ?_
              refine TL.pickT rfl rfl rfl rfl ?_
              refine TL.pickF rfl rfl rfl rfl ?_
              refine TL.move rfl rfl ?_
              refine TL.guardNo (d := 35) rfl rfl rfl rfl rfl ?_
              refine TL.guardNo (d := 35) rfl rfl rfl rfl rfl ?_
              refine TL.pickT rfl rfl rfl rfl ?_
              refine TL.move rfl rfl ?_
              refine TL.guardNo (d := 39) rfl rfl rfl rfl rfl ?_
              refine TL.guardNo (d := 39) rfl rfl rfl rfl rfl ?_
              refine TL.pickT rfl rfl rfl rfl ?_
              refine TL.move rfl rfl ?_
              refine TL.guardNo (d := 43) rfl rfl rfl rfl rfl ?_
              refine TL.guardNo (d := 43) rfl rfl rfl rfl rfl ?_
              refine TL.pickT rfl rfl rfl rfl ?_
              refine TL.not rfl rfl ?_
              refine TL.done ?_
              refine hK5 _ ?_
              refine Le.here rfl (by first | exact decide_eq_true (by omega) | exact decide_eq_false (by omega) | exact decide_eq_decide.2 (by omega) | exact decide_eq_true (by grind) | exact decide_eq_false (by grind) | exact decide_eq_decide.2 (by grind)) ?_
              repeat (first | exact Le.refl _ | refine Le.skip rfl ?_)
            ·
              refine TL.guardYes (d := 27) rfl rfl rfl ?_
              refine TL.pickT rfl rfl rfl rfl ?_
              refine TL.pickF rfl rfl rfl rfl ?_
              refine TL.move rfl rfl ?_
              refine TL.guardYes (d := 35) rfl rfl rfl ?_
              refine TL.move rfl rfl ?_
              refine TL.guardYes (d := 35) rfl rfl rfl ?_
              refine TL.eql rfl rfl rfl ?_
              refine TL.em (fun e37 => ?_) (fun e37 => ?_)
              ·
                refine TL.pickF rfl rfl rfl rfl ?_
                refine TL.move rfl rfl ?_
                refine TL.guardNo (d := 39) rfl rfl rfl rfl rfl ?_
                refine TL.guardNo (d := 39) rfl rfl rfl rfl rfl ?_
                refine TL.pickT rfl rfl rfl rfl ?_
                refine TL.move rfl rfl ?_
                refine TL.guardNo (d := 43) rfl rfl rfl rfl rfl ?_
                refine TL.guardNo (d := 43) rfl rfl rfl rfl rfl ?_
                refine TL.pickT rfl rfl rfl rfl ?_
                refine TL.not rfl rfl ?_
                refine TL.done ?_
                refine hK5 _ ?_
                refine Le.here rfl (by first | exact decide_eq_true (by omega) | exact decide_eq_false (by omega) | exact decide_eq_decide.2 (by omega) | exact decide_eq_true (by grind) | exact decide_eq_false (by grind) | exact decide_eq_decide.2 (by grind)) ?_
                repeat (first | exact Le.refl _ | refine Le.skip rfl ?_)
              ·
                refine TL.pickF rfl rfl rfl rfl ?_
                refine TL.move rfl rfl ?_
                refine TL.guardYes (d := 39) rfl rfl rfl ?_
                refine TL.move rfl rfl ?_
                refine TL.guardYes (d := 39) rfl rfl rfl ?_
                refine TL.eql rfl rfl rfl ?_
                refine TL.em (fun e41 => ?_) (fun e41 => ?_)
                ·
                  refine TL.pickF rfl rfl rfl rfl ?_
                  refine TL.move rfl rfl ?_
                  refine TL.guardNo (d := 43) rfl rfl rfl rfl rfl ?_
                  refine TL.guardNo (d := 43) rfl rfl rfl rfl rfl ?_
                  refine TL.pickT rfl rfl rfl rfl ?_
                  refine TL.not rfl rfl ?_
                  refine TL.done ?_
                  refine hK5 _ ?_
                  refine Le.here rfl (by first | exact decide_eq_true (by omega) | exact decide_eq_false (by omega) | exact decide_eq_decide.2 (by omega) | exact decide_eq_true (by grind) | exact decide_eq_false (by grind) | exact decide_eq_decide.2 (by grind)) ?_
                  repeat (first | exact Le.refl _ | refine Le.skip rfl ?_)
                ·
                  refine TL.pickF rfl rfl rfl rfl ?_
                  refine TL.move rfl rfl ?_
                  refine TL.guardYes (d := 43) rfl rfl rfl ?_
                  refine TL.move rfl rfl ?_
                  refine TL.guardYes (d := 43) rfl rfl rfl ?_
                  refine TL.eql rfl rfl rfl ?_
                  refine TL.pickF rfl rfl rfl rfl ?_
                  refine TL.notP rfl rfl ?_
                  refine TL.done ?_
                  refine hK5 _ ?_
                  refine Le.here rfl (by first | exact decide_eq_true (by omega) | exact decide_eq_false (by omega) | exact decide_eq_decide.2 (by omega) | exact decide_eq_true (by grind) | exact decide_eq_false (by grind) | exact decide_eq_decide.2 (by grind)) ?_
                  repeat (first | exact Le.refl _ | refine Le.skip rfl ?_)
          ·
            refine TL.guardYes (d := 27) rfl rfl rfl ?_
            refine TL.move rfl rfl ?_
            refine TL.guardNo (d := 30) rfl rfl rfl rfl rfl ?_
            refine TL.guardNo (d := 30) rfl rfl rfl rfl rfl ?_
            refine TL.guardYes (d := 27) rfl rfl rfl ?_
            refine TL.pickF rfl rfl rfl rfl ?_
            refine TL.pickF rfl rfl rfl rfl ?_
            refine TL.move rfl rfl ?_
            refine TL.guardYes (d := 35) rfl rfl rfl ?_
            refine TL.move rfl rfl ?_
            refine TL.guardYes (d := 35) rfl rfl rfl ?_
            refine TL.eql rfl rfl rfl ?_
            refine TL.em (fun e37 => ?_) (fun e37 => ?_)
            ·
              refine TL.pickF rfl rfl rfl rfl ?_
              refine TL.move rfl rfl ?_
              refine TL.guardNo (d := 39) rfl rfl rfl rfl rfl ?_
              refine TL.guardNo (d := 39) rfl rfl rfl rfl rfl ?_
              refine TL.pickT rfl rfl rfl rfl ?_
              refine TL.move rfl rfl ?_
              refine TL.guardNo (d := 43) rfl rfl rfl rfl rfl ?_
              refine TL.guardNo (d := 43) rfl rfl rfl rfl rfl ?_
              refine TL.pickT rfl rfl rfl rfl ?_
              refine TL.not rfl rfl ?_
              refine TL.done ?_
              refine hK5 _ ?_
              refine Le.here rfl (by first | exact decide_eq_true (by omega) | exact decide_eq_false (by omega) | exact decide_eq_decide.2 (by omega) | exact decide_eq_true (by grind) | exact decide_eq_false (by grind) | exact decide_eq_decide.2 (by grind)) ?_
              repeat (first | exact Le.refl _ | refine Le.skip rfl ?_)
            ·
              refine TL.pickF rfl rfl rfl rfl ?_
              refine TL.move rfl rfl ?_
              refine TL.guardYes (d := 39) rfl rfl rfl ?_
              refine TL.move rfl rfl ?_
              refine TL.guardYes (d := 39) rfl rfl rfl ?_
              refine TL.eql rfl rfl rfl ?_
              refine TL.em (fun e41 => ?_) (fun e41 => ?_)
              ·
                refine TL.pickF rfl rfl rfl rfl ?_
                refine TL.move rfl rfl ?_
                refine TL.guardNo (d := 43) rfl rfl rfl rfl rfl ?_
                refine TL.guardNo (d := 43) rfl rfl rfl rfl rfl ?_
                refine TL.pickT rfl rfl rfl rfl ?_
                refine TL.not rfl rfl ?_
                refine TL.done ?_
                refine hK5 _ ?_
                refine Le.here rfl (by first | exact decide_eq_true (by omega) | exact decide_eq_false (by omega) | exact decide_eq_decide.2 (by omega) | exact decide_eq_true (by grind) | exact decide_eq_false (by grind) | exact decide_eq_decide.2 (by grind)) ?_
                repeat (first | exact Le.refl _ | refine Le.skip rfl ?_)
              ·
                refine TL.pickF rfl rfl rfl rfl ?_
                refine TL.move rfl rfl ?_
                refine TL.guardYes (d := 43) rfl rfl rfl ?_
                refine TL.move rfl rfl ?_
                refine TL.guardYes (d := 43) rfl rfl rfl ?_
                refine TL.eql rfl rfl rfl ?_
                refine TL.pickF rfl rfl rfl rfl ?_
                refine TL.notP rfl rfl ?_
                refine TL.done ?_
                refine hK5 _ ?_
                refine Le.here rfl (by first | exact decide_eq_true (by omega) | exact decide_eq_false (by omega) | exact decide_eq_decide.2 (by omega) | exact decide_eq_true (by grind) | exact decide_eq_false (by grind) | exact decide_eq_decide.2 (by grind)) ?_
                repeat (first | exact Le.refl _ | refine Le.skip rfl ?_)
      refine TC.condP rfl (fun h20 => ?_) (fun h20 => ?_)
      ·
        refine TC.seq ?_
        refine TC.region ?_
        refine TL.assign rfl rfl ?_
        refine TL.done ?_
        refine Thn.go ?_
        refine TC.ret ?_
        refine Blk.ret ?_
        refine Thn.ret ?_
        refine Lp.ret ?_
        refine Blk.ret ?_
        refine Thn.ret ?_
        refine Ends.ret [2] rfl rfl ?_
        exact ⟨congrArg Value.bool (decide_eq_false (fun h => by have := h.2.2 s[i] (List.getElem_mem hil); rw [hb] at this; exact absurd this (by assumption))).symm, rfl⟩
      ·
        refine TC.skip ?_
        refine Blk.go ?_
        refine Thn.go ?_
        refine TC.region ?_
        refine TL.move rfl rfl ?_
        refine TL.add_i64 rfl rfl (by omega) (by omega) rfl ?_
        refine TL.assign rfl rfl ?_
        refine TL.done ?_
        refine Lp.go (i + 1) (by repeat (first | exact trivial | refine ⟨rfl, ?_⟩)) ?_ (by first | omega | (dsimp only; omega))
        refine ⟨by omega, fun j hj hj2 => ?_, rfl⟩
        rcases Nat.lt_or_ge j i with h | h
        · exact hg j hj h
        · obtain rfl : j = i := by omega
          rw [hb]; exact Decidable.not_not.1 (by assumption)
    ·
      have hil : i = s.length := by omega
      refine TC.exit ?_
      refine Thn.exit ?_
      refine Lp.exit ?_
      refine Blk.hit ?_
      refine Thn.go ?_
      refine TC.seq ?_
      refine TC.region ?_
      refine TL.assign rfl rfl ?_
      refine TL.done ?_
      refine Thn.go ?_
      refine TC.ret ?_
      refine Ends.ret [2] rfl rfl ?_
      exact ⟨congrArg Value.bool (decide_eq_true ⟨by omega, by omega, fun b hb => by obtain ⟨j, hj, rfl⟩ := List.getElem_of_mem hb; exact hg j hj (by omega)⟩).symm, rfl⟩

theorem fn33 (r : Wk.Work) (w : World) : Rets Try.prog 33 #[.agg (cl r).toArray] w (fun v w' => v = .bool (decide (Wk.may r)) ∧ Ch [] w w') := by
  refine Rets.of (n := 46) (vs := [_]) Try.func33 rfl rfl rfl ?_
  refine TC.seq ?_
  refine TC.region ?_
  refine TL.box rfl rfl (fun w1 hb1 hc1 hz1 => ?_)
  refine TL.assign rfl rfl ?_
  refine TL.done ?_
  refine Thn.go ?_
  refine TC.seq ?_
  refine TC.cut0 ([(1, .pointer (some ⟨w.heap.size, 0, none⟩)), (32, .bool (decide (r.id < 0 ∨ 2147483647 < r.id ∨ r.cas < 0 ∨ 2147483647 < r.cas ∨ ¬ Wk.named r.stage ∨ ¬ Wk.named r.role)))]) (fun w2 => Ch [] w1 w2) (fun K1 hK1 => ?_) (fun w2 hH => ?_)
  ·
    refine TC.region ?_
    refine TL.fieldAddr fd33k0 rfl rfl ?_
    refine TL.load pl3 rfl (hb1.cell _) rfl ?_
    refine TL.lss rfl rfl rfl ?_
    refine TL.em (fun e5 => ?_) (fun e5 => ?_)
    ·
      refine TL.move rfl rfl ?_
      refine TL.guardNo (d := 6) rfl rfl rfl rfl rfl ?_
      refine TL.guardNo (d := 6) rfl rfl rfl rfl rfl ?_
      refine TL.guardNo (d := 6) rfl rfl rfl rfl rfl ?_
      refine TL.pickT rfl rfl rfl rfl ?_
      refine TL.move rfl rfl ?_
      refine TL.guardNo (d := 11) rfl rfl rfl rfl rfl ?_
      refine TL.guardNo (d := 11) rfl rfl rfl rfl rfl ?_
      refine TL.guardNo (d := 11) rfl rfl rfl rfl rfl ?_
      refine TL.pickT rfl rfl rfl rfl ?_
      refine TL.move rfl rfl ?_
      refine TL.guardNo (d := 16) rfl rfl rfl rfl rfl ?_
      refine TL.guardNo (d := 16) rfl rfl rfl rfl rfl ?_
      refine TL.guardNo (d := 16) rfl rfl rfl rfl rfl ?_
      refine TL.pickT rfl rfl rfl rfl ?_
      refine TL.move rfl rfl ?_
      refine TL.guardNo (d := 21) rfl rfl rfl rfl rfl ?_
      refine TL.guardNo (d := 21) rfl rfl rfl rfl rfl ?_
      refine TL.guardNo (d := 21) rfl rfl rfl rfl rfl ?_
      refine TL.guardNo (d := 21) rfl rfl rfl rfl rfl ?_
      refine TL.pickT rfl rfl rfl rfl ?_
      refine TL.move rfl rfl ?_
      refine TL.guardNo (d := 27) rfl rfl rfl rfl rfl ?_
      refine TL.guardNo (d := 27) rfl rfl rfl rfl rfl ?_
      refine TL.guardNo (d := 27) rfl rfl rfl rfl rfl ?_
      refine TL.guardNo (d := 27) rfl rfl rfl rfl rfl ?_
      refine TL.pickT rfl rfl rfl rfl ?_
      refine TL.done ?_
      exact hK1  _ _ (by repeat (first | exact trivial | refine ⟨rfl, ?_⟩ | refine ⟨congrArg (fun b => some (Value.bool b)) (by first | exact (decide_eq_true (by grind)).symm | exact (decide_eq_false (by grind)).symm | exact decide_eq_decide.2 (by grind) | exact decide_eq_true (by grind) | exact decide_eq_false (by grind) | (exfalso; grind)), ?_⟩)) (by first | exact hc24.trans0 hc30 | exact hc24 | exact Ch.refl _ _ | rfl)
    ·
      refine TL.move rfl rfl ?_
      refine TL.guardYes (d := 6) rfl rfl rfl ?_
      refine TL.fieldAddr fd33k0 rfl rfl ?_
      refine TL.guardYes (d := 6) rfl rfl rfl ?_
      refine TL.load pl3 rfl (hb1.cell _) rfl ?_
      refine TL.guardYes (d := 6) rfl rfl rfl ?_
      refine TL.gtr rfl rfl rfl ?_
      refine TL.em (fun e9 => ?_) (fun e9 => ?_)
      ·
        refine TL.pickF rfl rfl rfl rfl ?_
        refine TL.move rfl rfl ?_
        refine TL.guardNo (d := 11) rfl rfl rfl rfl rfl ?_
        refine TL.guardNo (d := 11) rfl rfl rfl rfl rfl ?_
        refine TL.guardNo (d := 11) rfl rfl rfl rfl rfl ?_
        refine TL.pickT rfl rfl rfl rfl ?_
        refine TL.move rfl rfl ?_
        refine TL.guardNo (d := 16) rfl rfl rfl rfl rfl ?_
        refine TL.guardNo (d := 16) rfl rfl rfl rfl rfl ?_
        refine TL.guardNo (d := 16) rfl rfl rfl rfl rfl ?_
        refine TL.pickT rfl rfl rfl rfl ?_
        refine TL.move rfl rfl ?_
        refine TL.guardNo (d := 21) rfl rfl rfl rfl rfl ?_
        refine TL.guardNo (d := 21) rfl rfl rfl rfl rfl ?_
        refine TL.guardNo (d := 21) rfl rfl rfl rfl rfl ?_
        refine TL.guardNo (d := 21) rfl rfl rfl rfl rfl ?_
        refine TL.pickT rfl rfl rfl rfl ?_
        refine TL.move rfl rfl ?_
        refine TL.guardNo (d := 27) rfl rfl rfl rfl rfl ?_
        refine TL.guardNo (d := 27) rfl rfl rfl rfl rfl ?_
        refine TL.guardNo (d := 27) rfl rfl rfl rfl rfl ?_
        refine TL.guardNo (d := 27) rfl rfl rfl rfl rfl ?_
        refine TL.pickT rfl rfl rfl rfl ?_
        refine TL.done ?_
        exact hK1  _ _ (by repeat (first | exact trivial | refine ⟨rfl, ?_⟩ | refine ⟨congrArg (fun b => some (Value.bool b)) (by first | exact (decide_eq_true (by grind)).symm | exact (decide_eq_false (by grind)).symm | exact decide_eq_decide.2 (by grind) | exact decide_eq_true (by grind) | exact decide_eq_false (by grind) | (exfalso; grind)), ?_⟩)) (by first | exact hc24.trans0 hc30 | exact hc24 | exact Ch.refl _ _ | rfl)
      ·
        refine TL.pickF rfl rfl rfl rfl ?_
        refine TL.move rfl rfl ?_
        refine TL.guardYes (d := 11) rfl rfl rfl ?_
        refine TL.fieldAddr fd33k1 rfl rfl ?_
        refine TL.guardYes (d := 11) rfl rfl rfl ?_
        refine TL.load pl3 rfl (hb1.cell _) rfl ?_
        refine TL.guardYes (d := 11) rfl rfl rfl ?_
        refine TL.lss rfl rfl rfl ?_
        refine TL.em (fun e14 => ?_) (fun e14 => ?_)
        ·
          refine TL.pickF rfl rfl rfl rfl ?_
          refine TL.move rfl rfl ?_
          refine TL.guardNo (d := 16) rfl rfl rfl rfl rfl ?_
          refine TL.guardNo (d := 16) rfl rfl rfl rfl rfl ?_
          refine TL.guardNo (d := 16) rfl rfl rfl rfl rfl ?_
          refine TL.pickT rfl rfl rfl rfl ?_
          refine TL.move rfl rfl ?_
          refine TL.guardNo (d := 21) rfl rfl rfl rfl rfl ?_
          refine TL.guardNo (d := 21) rfl rfl rfl rfl rfl ?_
          refine TL.guardNo (d := 21) rfl rfl rfl rfl rfl ?_
          refine TL.guardNo (d := 21) rfl rfl rfl rfl rfl ?_
          refine TL.pickT rfl rfl rfl rfl ?_
          refine TL.move rfl rfl ?_
          refine TL.guardNo (d := 27) rfl rfl rfl rfl rfl ?_
          refine TL.guardNo (d := 27) rfl rfl rfl rfl rfl ?_
          refine TL.guardNo (d := 27) rfl rfl rfl rfl rfl ?_
          refine TL.guardNo (d := 27) rfl rfl rfl rfl rfl ?_
          refine TL.pickT rfl rfl rfl rfl ?_
          refine TL.done ?_
          exact hK1  _ _ (by repeat (first | exact trivial | refine ⟨rfl, ?_⟩ | refine ⟨congrArg (fun b => some (Value.bool b)) (by first | exact (decide_eq_true (by grind)).symm | exact (decide_eq_false (by grind)).symm | exact decide_eq_decide.2 (by grind) | exact decide_eq_true (by grind) | exact decide_eq_false (by grind) | (exfalso; grind)), ?_⟩)) (by first | exact hc24.trans0 hc30 | exact hc24 | exact Ch.refl _ _ | rfl)
        ·
          refine TL.pickF rfl rfl rfl rfl ?_
          refine TL.move rfl rfl ?_
          refine TL.guardYes (d := 16) rfl rfl rfl ?_
          refine TL.fieldAddr fd33k1 rfl rfl ?_
          refine TL.guardYes (d := 16) rfl rfl rfl ?_
          refine TL.load pl3 rfl (hb1.cell _) rfl ?_
          refine TL.guardYes (d := 16) rfl rfl rfl ?_
          refine TL.gtr rfl rfl rfl ?_
          refine TL.em (fun e19 => ?_) (fun e19 => ?_)
          ·
            refine TL.pickF rfl rfl rfl rfl ?_
            refine TL.move rfl rfl ?_
            refine TL.guardNo (d := 21) rfl rfl rfl rfl rfl ?_
            refine TL.guardNo (d := 21) rfl rfl rfl rfl rfl ?_
            refine TL.guardNo (d := 21) rfl rfl rfl rfl rfl ?_
            refine TL.guardNo (d := 21) rfl rfl rfl rfl rfl ?_
            refine TL.pickT rfl rfl rfl rfl ?_
            refine TL.move rfl rfl ?_
            refine TL.guardNo (d := 27) rfl rfl rfl rfl rfl ?_
            refine TL.guardNo (d := 27) rfl rfl rfl rfl rfl ?_
            refine TL.guardNo (d := 27) rfl rfl rfl rfl rfl ?_
            refine TL.guardNo (d := 27) rfl rfl rfl rfl rfl ?_
            refine TL.pickT rfl rfl rfl rfl ?_
            refine TL.done ?_
            exact hK1  _ _ (by repeat (first | exact trivial | refine ⟨rfl, ?_⟩ | refine ⟨congrArg (fun b => some (Value.bool b)) (by first | exact (decide_eq_true (by grind)).symm | exact (decide_eq_false (by grind)).symm | exact decide_eq_decide.2 (by grind) | exact decide_eq_true (by grind) | exact decide_eq_false (by grind) | (exfalso; grind)), ?_⟩)) (by first | exact hc24.trans0 hc30 | exact hc24 | exact Ch.refl _ _ | rfl)
          ·
            refine TL.pickF rfl rfl rfl rfl ?_
            refine TL.move rfl rfl ?_
            refine TL.guardYes (d := 21) rfl rfl rfl ?_
            refine TL.fieldAddr fd33k2 rfl rfl ?_
            refine TL.guardYes (d := 21) rfl rfl rfl ?_
            refine TL.load pl9 rfl (hb1.cell _) rfl ?_
            refine TL.guardYes (d := 21) rfl rfl rfl ?_
            refine TL.call can28 rfl rfl (fn28 r.stage w1) (fun v24 w24 hr24 => ?_)
            obtain ⟨rfl, hc24⟩ := hr24
            refine TL.em (fun e24 => ?_) (fun e24 => ?_)
            ·
              refine TL.guardYes (d := 21) rfl rfl rfl ?_
              refine TL.not rfl rfl ?_
              refine TL.pickF rfl rfl rfl rfl ?_
              refine TL.move rfl rfl ?_
              refine TL.guardYes (d := 27) rfl rfl rfl ?_
              refine TL.fieldAddr fd33k3 rfl rfl ?_
              refine TL.guardYes (d := 27) rfl rfl rfl ?_
              refine TL.load pl9 rfl ((hb1.ch0 hc24).cell _) rfl ?_
              refine TL.guardYes (d := 27) rfl rfl rfl ?_
              refine TL.call can28 rfl rfl (fn28 r.role w24) (fun v30 w30 hr30 => ?_)
              obtain ⟨rfl, hc30⟩ := hr30
              refine TL.guardYes (d := 27) rfl rfl rfl ?_
              refine TL.notP rfl rfl ?_
              refine TL.pickF rfl rfl rfl rfl ?_
              refine TL.done ?_
              exact hK1  _ _ (by repeat (first | exact trivial | refine ⟨rfl, ?_⟩ | refine ⟨congrArg (fun b => some (Value.bool b)) (by first | exact (decide_eq_true (by grind)).symm | exact (decide_eq_false (by grind)).symm | exact decide_eq_decide.2 (by grind) | exact decide_eq_true (by grind) | exact decide_eq_false (by grind) | (exfalso; grind)), ?_⟩)) (by first | exact hc24.trans0 hc30 | exact hc24 | exact Ch.refl _ _ | rfl)
            ·
              refine TL.guardYes (d := 21) rfl rfl rfl ?_
              refine TL.not rfl rfl ?_
              refine TL.pickF rfl rfl rfl rfl ?_
              refine TL.move rfl rfl ?_
              refine TL.guardNo (d := 27) rfl rfl rfl rfl rfl ?_
              refine TL.guardNo (d := 27) rfl rfl rfl rfl rfl ?_
              refine TL.guardNo (d := 27) rfl rfl rfl rfl rfl ?_
              refine TL.guardNo (d := 27) rfl rfl rfl rfl rfl ?_
              refine TL.pickT rfl rfl rfl rfl ?_
              refine TL.done ?_
              exact hK1  _ _ (by repeat (first | exact trivial | refine ⟨rfl, ?_⟩ | refine ⟨congrArg (fun b => some (Value.bool b)) (by first | exact (decide_eq_true (by grind)).symm | exact (decide_eq_false (by grind)).symm | exact decide_eq_decide.2 (by grind) | exact decide_eq_true (by grind) | exact decide_eq_false (by grind) | (exfalso; grind)), ?_⟩)) (by first | exact hc24.trans0 hc30 | exact hc24 | exact Ch.refl _ _ | rfl)
  ·
    refine TC.condP rfl (fun h7 => ?_) (fun h7 => ?_)
    ·
      have hor : r.id < 0 ∨ 2147483647 < r.id ∨ r.cas < 0 ∨ 2147483647 < r.cas ∨ ¬ Wk.named r.stage ∨ ¬ Wk.named r.role := by assumption
      refine TC.seq ?_
      refine TC.region ?_
      refine TL.assign rfl rfl ?_
      refine TL.done ?_
      refine Thn.go ?_
      refine TC.ret ?_
      refine Thn.ret ?_
      refine Ends.ret [2] rfl rfl ?_
      exact ⟨congrArg Value.bool (decide_eq_false (fun ⟨m1, m2, m3, m4, m5, m6, _⟩ => by rcases hor with h | h | h | h | h | h <;> first | omega | exact h m5 | exact h m6)).symm, hc1.trans0 hH⟩
    ·
      have hor : ¬ (r.id < 0 ∨ 2147483647 < r.id ∨ r.cas < 0 ∨ 2147483647 < r.cas ∨ ¬ Wk.named r.stage ∨ ¬ Wk.named r.role) := by assumption
      have hns : Wk.named r.stage := Decidable.byContradiction fun h => hor (.inr (.inr (.inr (.inr (.inl h)))))
      have hnr : Wk.named r.role := Decidable.byContradiction fun h => hor (.inr (.inr (.inr (.inr (.inr h)))))
      have hiff : Wk.may r ↔ ((r.state.toNat = 1 ∧ r.owner = []) ∨ ((r.state.toNat = 2 ∨ r.state.toNat = 3) ∧ Wk.named r.owner)) := ⟨fun h => h.2.2.2.2.2.2, fun h => ⟨by omega, by omega, by omega, by omega, hns, hnr, h⟩⟩
      have hb2 := hb1.ch0 hH
      refine TC.skip ?_
      refine Thn.go ?_
      refine TC.seq ?_
      refine TC.seq ?_
      refine TC.region ?_
      refine TL.fieldAddr fd33k4 rfl rfl ?_
      refine TL.load pl5 rfl (hb2.cell _) rfl ?_
      refine TL.done ?_
      refine Thn.go ?_
      refine TC.block ?_
      refine TC.seq ?_
      refine TC.region ?_
      refine TL.eql rfl rfl rfl ?_
      refine TL.assign rfl rfl ?_
      refine TL.done ?_
      refine Thn.go ?_
      refine TC.condP rfl (fun h8 => ?_) (fun h8 => ?_)
      ·
        refine TC.seq ?_
        refine TC.region ?_
        refine TL.fieldAddr fd33k5 rfl rfl ?_
        refine TL.load pl9 rfl (hb2.cell _) rfl ?_
        refine TL.eqlStr rfl rfl rfl ?_
        refine TL.assign rfl rfl ?_
        refine TL.done ?_
        refine Thn.go ?_
        refine TC.ret ?_
        refine Blk.ret ?_
        refine Thn.ret ?_
        refine Ends.ret [2] rfl rfl ?_
        exact ⟨congrArg Value.bool (decide_eq_decide.2 (by rw [hiff]; grind)), hc1.trans0 hH⟩
      ·
        refine TC.cut0 ([(1, .pointer (some ⟨w.heap.size, 0, none⟩)), (40, .bool (decide (r.state.toNat = 2 ∨ r.state.toNat = 3)))]) (fun w3 => w3 = w2) (fun K9 hK9 => ?_) (fun w3 hM => ?_)
        ·
          refine TC.seq ?_
          refine TC.region ?_
          refine TL.eql rfl rfl rfl ?_
          refine TL.assign rfl rfl ?_
          refine TL.done ?_
          refine Thn.go ?_
          refine TC.condP rfl (fun h10 => ?_) (fun h10 => ?_)
          ·
            refine TC.skip ?_
            exact hK9  _ _ (by repeat (first | exact trivial | refine ⟨rfl, ?_⟩ | refine ⟨congrArg (fun b => some (Value.bool b)) (by first | exact (decide_eq_true (by grind)).symm | exact (decide_eq_false (by grind)).symm | exact decide_eq_decide.2 (by grind) | exact decide_eq_true (by grind) | exact decide_eq_false (by grind) | (exfalso; grind)), ?_⟩)) (by first | exact hc24.trans0 hc30 | exact hc24 | exact Ch.refl _ _ | rfl)
          ·
            refine TC.region ?_
            refine TL.eql rfl rfl rfl ?_
            refine TL.assign rfl rfl ?_
            refine TL.done ?_
            exact hK9  _ _ (by repeat (first | exact trivial | refine ⟨rfl, ?_⟩ | refine ⟨congrArg (fun b => some (Value.bool b)) (by first | exact (decide_eq_true (by grind)).symm | exact (decide_eq_false (by grind)).symm | exact decide_eq_decide.2 (by grind) | exact decide_eq_true (by grind) | exact decide_eq_false (by grind) | (exfalso; grind)), ?_⟩)) (by first | exact hc24.trans0 hc30 | exact hc24 | exact Ch.refl _ _ | rfl)
        ·
          subst hM
          refine TC.condP rfl (fun h11 => ?_) (fun h11 => ?_)
          ·
            refine TC.seq ?_
            refine TC.region ?_
            refine TL.fieldAddr fd33k5 rfl rfl ?_
            refine TL.load pl9 rfl (hb2.cell _) rfl ?_
            refine TL.call can28 rfl rfl (fn28 r.owner _) (fun v45 w45 hr45 => ?_)
            obtain ⟨rfl, hc45⟩ := hr45
            refine TL.assign rfl rfl ?_
            refine TL.done ?_
            refine Thn.go ?_
            refine TC.ret ?_
            refine Blk.ret ?_
            refine Thn.ret ?_
            refine Ends.ret [2] rfl rfl ?_
            exact ⟨congrArg Value.bool (decide_eq_decide.2 (by rw [hiff]; grind)), (hc1.trans0 hH).trans0 hc45⟩
          ·
            refine TC.skip ?_
            refine Blk.go ?_
            refine Thn.go ?_
            refine TC.seq ?_
            refine TC.region ?_
            refine TL.assign rfl rfl ?_
            refine TL.done ?_
            refine Thn.go ?_
            refine TC.ret ?_
            refine Ends.ret [2] rfl rfl ?_
            exact ⟨congrArg Value.bool (decide_eq_false (by rw [hiff]; grind)).symm, hc1.trans0 hH⟩

theorem fn34 (r : Wk.Work) (w : World) : Rets Try.prog 34 #[.agg (cl r).toArray] w (fun v w' => v = .bool (decide (Wk.may r)) ∧ Ch [] w w') := by
  refine Rets.of (n := 52) (vs := [_]) Try.func34 rfl rfl rfl ?_
  refine TC.seq ?_
  refine TC.region ?_
  refine TL.box rfl rfl (fun w1 hb1 hc1 hz1 => ?_)
  refine TL.assign rfl rfl ?_
  refine TL.done ?_
  refine Thn.go ?_
  refine TC.seq ?_
  refine TC.cut0 ([(1, .pointer (some ⟨w.heap.size, 0, none⟩)), (32, .bool (decide (r.id < 0 ∨ 2147483647 < r.id ∨ r.cas < 0 ∨ 2147483647 < r.cas ∨ ¬ Wk.named r.stage ∨ ¬ Wk.named r.role)))]) (fun w2 => w2 = w1) (fun K1 hK1 => ?_) (fun w2 hH => ?_)
  ·
    refine TC.region ?_
    refine TL.fieldAddr fd33k0 rfl rfl ?_
    refine TL.load pl3 rfl (hb1.cell _) rfl ?_
    refine TL.lss rfl rfl rfl ?_
    refine TL.em (fun e5 => ?_) (fun e5 => ?_)
    ·
      refine TL.move rfl rfl ?_
      refine TL.guardNo (d := 6) rfl rfl rfl rfl rfl ?_
      refine TL.guardNo (d := 6) rfl rfl rfl rfl rfl ?_
      refine TL.guardNo (d := 6) rfl rfl rfl rfl rfl ?_
      refine TL.pickT rfl rfl rfl rfl ?_
      refine TL.move rfl rfl ?_
      refine TL.guardNo (d := 11) rfl rfl rfl rfl rfl ?_
      refine TL.guardNo (d := 11) rfl rfl rfl rfl rfl ?_
      refine TL.guardNo (d := 11) rfl rfl rfl rfl rfl ?_
      refine TL.pickT rfl rfl rfl rfl ?_
      refine TL.move rfl rfl ?_
      refine TL.guardNo (d := 16) rfl rfl rfl rfl rfl ?_
      refine TL.guardNo (d := 16) rfl rfl rfl rfl rfl ?_
      refine TL.guardNo (d := 16) rfl rfl rfl rfl rfl ?_
      refine TL.pickT rfl rfl rfl rfl ?_
      refine TL.move rfl rfl ?_
      refine TL.guardNo (d := 21) rfl rfl rfl rfl rfl ?_
      refine TL.guardNo (d := 21) rfl rfl rfl rfl rfl ?_
      refine TL.guardNo (d := 21) rfl rfl rfl rfl rfl ?_
      refine TL.guardNo (d := 21) rfl rfl rfl rfl rfl ?_
      refine TL.pickT rfl rfl rfl rfl ?_
      refine TL.move rfl rfl ?_
      refine TL.guardNo (d := 27) rfl rfl rfl rfl rfl ?_
      refine TL.guardNo (d := 27) rfl rfl rfl rfl rfl ?_
      refine TL.guardNo (d := 27) rfl rfl rfl rfl rfl ?_
      refine TL.guardNo (d := 27) rfl rfl rfl rfl rfl ?_
      refine TL.pickT rfl rfl rfl rfl ?_
      refine TL.done ?_
      exact hK1  _ _ (by repeat (first | exact trivial | refine ⟨rfl, ?_⟩ | refine ⟨congrArg (fun b => some (Value.bool b)) (by first | exact (decide_eq_true (by grind)).symm | exact (decide_eq_false (by grind)).symm | exact decide_eq_decide.2 (by grind) | exact decide_eq_true (by grind) | exact decide_eq_false (by grind) | (exfalso; grind)), ?_⟩)) (by rfl)
    ·
      refine TL.move rfl rfl ?_
      refine TL.guardYes (d := 6) rfl rfl rfl ?_
      refine TL.fieldAddr fd33k0 rfl rfl ?_
      refine TL.guardYes (d := 6) rfl rfl rfl ?_
      refine TL.load pl3 rfl (hb1.cell _) rfl ?_
      refine TL.guardYes (d := 6) rfl rfl rfl ?_
      refine TL.gtr rfl rfl rfl ?_
      refine TL.em (fun e9 => ?_) (fun e9 => ?_)
      ·
        refine TL.pickF rfl rfl rfl rfl ?_
        refine TL.move rfl rfl ?_
        refine TL.guardNo (d := 11) rfl rfl rfl rfl rfl ?_
        refine TL.guardNo (d := 11) rfl rfl rfl rfl rfl ?_
        refine TL.guardNo (d := 11) rfl rfl rfl rfl rfl ?_
        refine TL.pickT rfl rfl rfl rfl ?_
        refine TL.move rfl rfl ?_
        refine TL.guardNo (d := 16) rfl rfl rfl rfl rfl ?_
        refine TL.guardNo (d := 16) rfl rfl rfl rfl rfl ?_
        refine TL.guardNo (d := 16) rfl rfl rfl rfl rfl ?_
        refine TL.pickT rfl rfl rfl rfl ?_
        refine TL.move rfl rfl ?_
        refine TL.guardNo (d := 21) rfl rfl rfl rfl rfl ?_
        refine TL.guardNo (d := 21) rfl rfl rfl rfl rfl ?_
        refine TL.guardNo (d := 21) rfl rfl rfl rfl rfl ?_
        refine TL.guardNo (d := 21) rfl rfl rfl rfl rfl ?_
        refine TL.pickT rfl rfl rfl rfl ?_
        refine TL.move rfl rfl ?_
        refine TL.guardNo (d := 27) rfl rfl rfl rfl rfl ?_
        refine TL.guardNo (d := 27) rfl rfl rfl rfl rfl ?_
        refine TL.guardNo (d := 27) rfl rfl rfl rfl rfl ?_
        refine TL.guardNo (d := 27) rfl rfl rfl rfl rfl ?_
        refine TL.pickT rfl rfl rfl rfl ?_
        refine TL.done ?_
        exact hK1  _ _ (by repeat (first | exact trivial | refine ⟨rfl, ?_⟩ | refine ⟨congrArg (fun b => some (Value.bool b)) (by first | exact (decide_eq_true (by grind)).symm | exact (decide_eq_false (by grind)).symm | exact decide_eq_decide.2 (by grind) | exact decide_eq_true (by grind) | exact decide_eq_false (by grind) | (exfalso; grind)), ?_⟩)) (by rfl)
      ·
        refine TL.pickF rfl rfl rfl rfl ?_
        refine TL.move rfl rfl ?_
        refine TL.guardYes (d := 11) rfl rfl rfl ?_
        refine TL.fieldAddr fd33k1 rfl rfl ?_
        refine TL.guardYes (d := 11) rfl rfl rfl ?_
        refine TL.load pl3 rfl (hb1.cell _) rfl ?_
        refine TL.guardYes (d := 11) rfl rfl rfl ?_
        refine TL.lss rfl rfl rfl ?_
        refine TL.em (fun e14 => ?_) (fun e14 => ?_)
        ·
          refine TL.pickF rfl rfl rfl rfl ?_
          refine TL.move rfl rfl ?_
          refine TL.guardNo (d := 16) rfl rfl rfl rfl rfl ?_
          refine TL.guardNo (d := 16) rfl rfl rfl rfl rfl ?_
          refine TL.guardNo (d := 16) rfl rfl rfl rfl rfl ?_
          refine TL.pickT rfl rfl rfl rfl ?_
          refine TL.move rfl rfl ?_
          refine TL.guardNo (d := 21) rfl rfl rfl rfl rfl ?_
          refine TL.guardNo (d := 21) rfl rfl rfl rfl rfl ?_
          refine TL.guardNo (d := 21) rfl rfl rfl rfl rfl ?_
          refine TL.guardNo (d := 21) rfl rfl rfl rfl rfl ?_
          refine TL.pickT rfl rfl rfl rfl ?_
          refine TL.move rfl rfl ?_
          refine TL.guardNo (d := 27) rfl rfl rfl rfl rfl ?_
          refine TL.guardNo (d := 27) rfl rfl rfl rfl rfl ?_
          refine TL.guardNo (d := 27) rfl rfl rfl rfl rfl ?_
          refine TL.guardNo (d := 27) rfl rfl rfl rfl rfl ?_
          refine TL.pickT rfl rfl rfl rfl ?_
          refine TL.done ?_
          exact hK1  _ _ (by repeat (first | exact trivial | refine ⟨rfl, ?_⟩ | refine ⟨congrArg (fun b => some (Value.bool b)) (by first | exact (decide_eq_true (by grind)).symm | exact (decide_eq_false (by grind)).symm | exact decide_eq_decide.2 (by grind) | exact decide_eq_true (by grind) | exact decide_eq_false (by grind) | (exfalso; grind)), ?_⟩)) (by rfl)
        ·
          refine TL.pickF rfl rfl rfl rfl ?_
          refine TL.move rfl rfl ?_
          refine TL.guardYes (d := 16) rfl rfl rfl ?_
          refine TL.fieldAddr fd33k1 rfl rfl ?_
          refine TL.guardYes (d := 16) rfl rfl rfl ?_
          refine TL.load pl3 rfl (hb1.cell _) rfl ?_
          refine TL.guardYes (d := 16) rfl rfl rfl ?_
          refine TL.gtr rfl rfl rfl ?_
          refine TL.em (fun e19 => ?_) (fun e19 => ?_)
          ·
            refine TL.pickF rfl rfl rfl rfl ?_
            refine TL.move rfl rfl ?_
            refine TL.guardNo (d := 21) rfl rfl rfl rfl rfl ?_
            refine TL.guardNo (d := 21) rfl rfl rfl rfl rfl ?_
            refine TL.guardNo (d := 21) rfl rfl rfl rfl rfl ?_
            refine TL.guardNo (d := 21) rfl rfl rfl rfl rfl ?_
            refine TL.pickT rfl rfl rfl rfl ?_
            refine TL.move rfl rfl ?_
            refine TL.guardNo (d := 27) rfl rfl rfl rfl rfl ?_
            refine TL.guardNo (d := 27) rfl rfl rfl rfl rfl ?_
            refine TL.guardNo (d := 27) rfl rfl rfl rfl rfl ?_
            refine TL.guardNo (d := 27) rfl rfl rfl rfl rfl ?_
            refine TL.pickT rfl rfl rfl rfl ?_
            refine TL.done ?_
            exact hK1  _ _ (by repeat (first | exact trivial | refine ⟨rfl, ?_⟩ | refine ⟨congrArg (fun b => some (Value.bool b)) (by first | exact (decide_eq_true (by grind)).symm | exact (decide_eq_false (by grind)).symm | exact decide_eq_decide.2 (by grind) | exact decide_eq_true (by grind) | exact decide_eq_false (by grind) | (exfalso; grind)), ?_⟩)) (by rfl)
          ·
            refine TL.pickF rfl rfl rfl rfl ?_
            refine TL.move rfl rfl ?_
            refine TL.guardYes (d := 21) rfl rfl rfl ?_
            refine TL.fieldAddr fd33k2 rfl rfl ?_
            refine TL.guardYes (d := 21) rfl rfl rfl ?_
            refine TL.load pl9 rfl (hb1.cell _) rfl ?_
            refine TL.guardYes (d := 21) rfl rfl rfl ?_
            refine TL.call can31 rfl rfl (fn31 r.stage w1) (fun v24 w24 hr24 => ?_)
            obtain ⟨rfl, rfl⟩ := hr24
            refine TL.em (fun e24 => ?_) (fun e24 => ?_)
            ·
              refine TL.guardYes (d := 21) rfl rfl rfl ?_
              refine TL.not rfl rfl ?_
              refine TL.pickF rfl rfl rfl rfl ?_
              refine TL.move rfl rfl ?_
              refine TL.guardYes (d := 27) rfl rfl rfl ?_
              refine TL.fieldAddr fd33k3 rfl rfl ?_
              refine TL.guardYes (d := 27) rfl rfl rfl ?_
              refine TL.load pl9 rfl (hb1.cell _) rfl ?_
              refine TL.guardYes (d := 27) rfl rfl rfl ?_
              refine TL.call can31 rfl rfl (fn31 r.role _) (fun v30 w30 hr30 => ?_)
              obtain ⟨rfl, rfl⟩ := hr30
              refine TL.guardYes (d := 27) rfl rfl rfl ?_
              refine TL.notP rfl rfl ?_
              refine TL.pickF rfl rfl rfl rfl ?_
              refine TL.done ?_
              exact hK1  _ _ (by repeat (first | exact trivial | refine ⟨rfl, ?_⟩ | refine ⟨congrArg (fun b => some (Value.bool b)) (by first | exact (decide_eq_true (by grind)).symm | exact (decide_eq_false (by grind)).symm | exact decide_eq_decide.2 (by grind) | exact decide_eq_true (by grind) | exact decide_eq_false (by grind) | (exfalso; grind)), ?_⟩)) (by rfl)
            ·
              refine TL.guardYes (d := 21) rfl rfl rfl ?_
              refine TL.not rfl rfl ?_
              refine TL.pickF rfl rfl rfl rfl ?_
              refine TL.move rfl rfl ?_
              refine TL.guardNo (d := 27) rfl rfl rfl rfl rfl ?_
              refine TL.guardNo (d := 27) rfl rfl rfl rfl rfl ?_
              refine TL.guardNo (d := 27) rfl rfl rfl rfl rfl ?_
              refine TL.guardNo (d := 27) rfl rfl rfl rfl rfl ?_
              refine TL.pickT rfl rfl rfl rfl ?_
              refine TL.done ?_
              exact hK1  _ _ (by repeat (first | exact trivial | refine ⟨rfl, ?_⟩ | refine ⟨congrArg (fun b => some (Value.bool b)) (by first | exact (decide_eq_true (by grind)).symm | exact (decide_eq_false (by grind)).symm | exact decide_eq_decide.2 (by grind) | exact decide_eq_true (by grind) | exact decide_eq_false (by grind) | (exfalso; grind)), ?_⟩)) (by rfl)
  ·
    refine TC.condP rfl (fun h7 => ?_) (fun h7 => ?_)
    ·
      have hor : r.id < 0 ∨ 2147483647 < r.id ∨ r.cas < 0 ∨ 2147483647 < r.cas ∨ ¬ Wk.named r.stage ∨ ¬ Wk.named r.role := by assumption
      refine TC.seq ?_
      refine TC.region ?_
      refine TL.assign rfl rfl ?_
      refine TL.done ?_
      refine Thn.go ?_
      refine TC.ret ?_
      refine Thn.ret ?_
      refine Ends.ret [2] rfl rfl ?_
      exact ⟨congrArg Value.bool (decide_eq_false (fun ⟨m1, m2, m3, m4, m5, m6, _⟩ => by rcases hor with h | h | h | h | h | h <;> first | omega | exact h m5 | exact h m6)).symm, by subst hH; exact hc1⟩
    ·
      have hor : ¬ (r.id < 0 ∨ 2147483647 < r.id ∨ r.cas < 0 ∨ 2147483647 < r.cas ∨ ¬ Wk.named r.stage ∨ ¬ Wk.named r.role) := by assumption
      have hns : Wk.named r.stage := Decidable.byContradiction fun h => hor (.inr (.inr (.inr (.inr (.inl h)))))
      have hnr : Wk.named r.role := Decidable.byContradiction fun h => hor (.inr (.inr (.inr (.inr (.inr h)))))
      have hiff : Wk.may r ↔ ((r.state.toNat = 1 ∧ r.owner = []) ∨ ((r.state.toNat = 2 ∨ r.state.toNat = 3) ∧ Wk.named r.owner)) := ⟨fun h => h.2.2.2.2.2.2, fun h => ⟨by omega, by omega, by omega, by omega, hns, hnr, h⟩⟩
      subst hH
      refine TC.skip ?_
      refine Thn.go ?_
      refine TC.seq ?_
      refine TC.seq ?_
      refine TC.region ?_
      refine TL.fieldAddr fd33k4 rfl rfl ?_
      refine TL.load pl5 rfl (hb1.cell _) rfl ?_
      refine TL.eql rfl rfl rfl ?_
      refine TL.done ?_
      refine Thn.go ?_
      refine TC.condP rfl (fun h8 => ?_) (fun h8 => ?_)
      ·
        refine TC.seq ?_
        refine TC.region ?_
        refine TL.fieldAddr fd33k5 rfl rfl ?_
        refine TL.load pl9 rfl (hb1.cell _) rfl ?_
        refine TL.eqlStr rfl rfl rfl ?_
        refine TL.assign rfl rfl ?_
        refine TL.done ?_
        refine Thn.go ?_
        refine TC.ret ?_
        refine Thn.ret ?_
        refine Ends.ret [2] rfl rfl ?_
        exact ⟨congrArg Value.bool (decide_eq_decide.2 (by rw [hiff]; grind)), hc1⟩
      ·
        refine TC.skip ?_
        refine Thn.go ?_
        refine TC.cut0 ([(2, .bool (decide (Wk.may r)))]) (fun w3 => w3 = w2) (fun K9 hK9 => ?_) (fun w3 hM => ?_)
        ·
          refine TC.region ?_
          refine TL.fieldAddr fd33k4 rfl rfl ?_
          refine TL.load pl5 rfl (hb1.cell _) rfl ?_
          refine TL.eql rfl rfl rfl ?_
          refine TL.em (fun e41 => ?_) (fun e41 => ?_)
          ·
            refine TL.move rfl rfl ?_
            refine TL.guardNo (d := 42) rfl rfl rfl rfl rfl ?_
            refine TL.guardNo (d := 42) rfl rfl rfl rfl rfl ?_
            refine TL.guardNo (d := 42) rfl rfl rfl rfl rfl ?_
            refine TL.pickT rfl rfl rfl rfl ?_
            refine TL.move rfl rfl ?_
            refine TL.guardYes (d := 47) rfl rfl rfl ?_
            refine TL.fieldAddr fd33k5 rfl rfl ?_
            refine TL.guardYes (d := 47) rfl rfl rfl ?_
            refine TL.load pl9 rfl (hb1.cell _) rfl ?_
            refine TL.guardYes (d := 47) rfl rfl rfl ?_
            refine TL.call can31 rfl rfl (fn31 r.owner _) (fun v50 w50 hr50 => ?_)
            obtain ⟨rfl, rfl⟩ := hr50
            refine TL.pickT rfl rfl rfl rfl ?_
            refine TL.assign rfl rfl ?_
            refine TL.done ?_
            exact hK9  _ _ (by repeat (first | exact trivial | refine ⟨rfl, ?_⟩ | refine ⟨congrArg (fun b => some (Value.bool b)) (by first | exact (decide_eq_true (by grind)).symm | exact (decide_eq_false (by grind)).symm | exact decide_eq_decide.2 (by grind) | exact decide_eq_true (by grind) | exact decide_eq_false (by grind) | (exfalso; grind)), ?_⟩)) (by rfl)
          ·
            refine TL.move rfl rfl ?_
            refine TL.guardYes (d := 42) rfl rfl rfl ?_
            refine TL.fieldAddr fd33k4 rfl rfl ?_
            refine TL.guardYes (d := 42) rfl rfl rfl ?_
            refine TL.load pl5 rfl (hb1.cell _) rfl ?_
            refine TL.guardYes (d := 42) rfl rfl rfl ?_
            refine TL.eql rfl rfl rfl ?_
            refine TL.em (fun e45 => ?_) (fun e45 => ?_)
            ·
              refine TL.pickF rfl rfl rfl rfl ?_
              refine TL.move rfl rfl ?_
              refine TL.guardYes (d := 47) rfl rfl rfl ?_
              refine TL.fieldAddr fd33k5 rfl rfl ?_
              refine TL.guardYes (d := 47) rfl rfl rfl ?_
              refine TL.load pl9 rfl (hb1.cell _) rfl ?_
              refine TL.guardYes (d := 47) rfl rfl rfl ?_
              refine TL.call can31 rfl rfl (fn31 r.owner _) (fun v50 w50 hr50 => ?_)
              obtain ⟨rfl, rfl⟩ := hr50
              refine TL.pickT rfl rfl rfl rfl ?_
              refine TL.assign rfl rfl ?_
              refine TL.done ?_
              exact hK9  _ _ (by repeat (first | exact trivial | refine ⟨rfl, ?_⟩ | refine ⟨congrArg (fun b => some (Value.bool b)) (by first | exact (decide_eq_true (by grind)).symm | exact (decide_eq_false (by grind)).symm | exact decide_eq_decide.2 (by grind) | exact decide_eq_true (by grind) | exact decide_eq_false (by grind) | (exfalso; grind)), ?_⟩)) (by rfl)
            ·
              refine TL.pickF rfl rfl rfl rfl ?_
              refine TL.move rfl rfl ?_
              refine TL.guardNo (d := 47) rfl rfl rfl rfl rfl ?_
              refine TL.guardNo (d := 47) rfl rfl rfl rfl rfl ?_
              refine TL.guardNo (d := 47) rfl rfl rfl rfl rfl ?_
              refine TL.pickF rfl rfl rfl rfl ?_
              refine TL.assign rfl rfl ?_
              refine TL.done ?_
              exact hK9  _ _ (by repeat (first | exact trivial | refine ⟨rfl, ?_⟩ | refine ⟨congrArg (fun b => some (Value.bool b)) (by first | exact (decide_eq_true (by grind)).symm | exact (decide_eq_false (by grind)).symm | exact decide_eq_decide.2 (by grind) | exact decide_eq_true (by grind) | exact decide_eq_false (by grind) | (exfalso; grind)), ?_⟩)) (by rfl)
        ·
          refine TC.ret ?_
          refine Ends.ret [2] rfl rfl ?_
          exact ⟨rfl, by subst hM; exact hc1⟩

