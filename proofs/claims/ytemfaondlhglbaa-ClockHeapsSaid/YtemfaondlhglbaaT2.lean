/-
  Walks through the given program: each theorem fnN says what the call of function N of the translation hands back, for all arguments that its premises describe, and that nothing that was there has turned.
-/
import Derived.Test.YtemfaondlhglbaaT1
namespace Go.Proofs.Ytemfaondlhglbaa
open Go.Lane
theorem ag27 : AggT Try.prog 27 5 := ⟨⟨_, Try.underlying27, rfl⟩, by kernel_rfl⟩
theorem can31 : Callable Try.prog 31 := ⟨Try.f31, Try.func31, by kernel_rfl, rfl⟩
theorem can41 : Callable Try.prog 41 := ⟨Try.f41, Try.func41, by kernel_rfl, rfl⟩
theorem can42 : Callable Try.prog 42 := ⟨Try.f42, Try.func42, by kernel_rfl, rfl⟩
theorem can43 : Callable Try.prog 43 := ⟨Try.f43, Try.func43, by kernel_rfl, rfl⟩
theorem can44 : Callable Try.prog 44 := ⟨Try.f44, Try.func44, by kernel_rfl, rfl⟩
theorem fd27k0 : FieldT Try.prog 27 0 3 0 1 := ⟨_, _, Try.underlying27, rfl, rfl, rfl, by kernel_rfl, by decide⟩
theorem fd27k1 : FieldT Try.prog 27 1 3 1 1 := ⟨_, _, Try.underlying27, rfl, rfl, rfl, by kernel_rfl, by decide⟩
theorem fd27k2 : FieldT Try.prog 27 2 3 2 1 := ⟨_, _, Try.underlying27, rfl, rfl, rfl, by kernel_rfl, by decide⟩
theorem fd27k3 : FieldT Try.prog 27 3 9 3 1 := ⟨_, _, Try.underlying27, rfl, rfl, rfl, by kernel_rfl, by decide⟩
theorem fd27k4 : FieldT Try.prog 27 4 9 4 1 := ⟨_, _, Try.underlying27, rfl, rfl, rfl, by kernel_rfl, by decide⟩
theorem gd27 : Try.prog.eqGuardType Try.prog.depth 27 = false := by kernel_rfl
theorem mixed0 : Try.prog.follows .mixedOrders = true := by kernel_rfl
theorem pl3 : Plain Try.prog 3 := ⟨_, Try.underlying3, rfl⟩
theorem pl9 : Plain Try.prog 9 := ⟨_, Try.underlying9, rfl⟩
theorem sl25 : SliceT Try.prog 25 27 5 56 (.agg #[.int .i64 0, .int .i64 0, .int .i64 0, .string ⟨#[]⟩, .string ⟨#[]⟩]) := SliceT.mk' Try.underlying25 (by kernel_rfl) rfl rfl
def r77 : Tm.Timer := ⟨0, 77, 0, [], []⟩

theorem fn41 (s : List UInt8) (w : World) : Rets Try.prog 41 #[str s] w (fun v w' => v = .bool (decide (Tm.named s)) ∧ w' = w) := by
  have hmm : maxLen = 9223372036854775807 := rfl
  have hnil : s = [] ↔ s.length = 0 := List.length_eq_zero_iff.symm
  refine Rets.of (n := 48) (vs := [_]) Try.func41 rfl rfl rfl ?_
  refine TC.seq ?_
  refine TC.region ?_
  refine TL.assign rfl rfl ?_
  refine TL.done ?_
  refine Thn.go ?_
  refine TC.seq ?_
  refine TC.regionBool (d := 11) (p := (s.length = 0 ∨ 32 < s.length)) (fun K1 hK1 => ?_) ?_
  ·
    refine TL.move rfl rfl ?_
    refine TL.eqlStr rfl rfl rfl ?_
    refine TL.em (fun e6 => ?_) (fun e6 => ?_)
    ·
      refine TL.move rfl rfl ?_
      refine TL.guardNo (d := 7) rfl rfl rfl rfl rfl ?_
      refine TL.guardNo (d := 7) rfl rfl rfl rfl rfl ?_
      refine TL.guardNo (d := 7) rfl rfl rfl rfl rfl ?_
      refine TL.pickT rfl rfl rfl rfl ?_
      refine TL.done ?_
      refine hK1 _ ?_
      refine Le.here rfl (by first | exact decide_eq_true (by omega) | exact decide_eq_false (by omega) | exact decide_eq_decide.2 (by omega) | exact decide_eq_true (by grind) | exact decide_eq_false (by grind) | exact decide_eq_decide.2 (by grind)) ?_
      repeat (first | exact Le.refl _ | refine Le.skip rfl ?_)
    ·
      refine TL.move rfl rfl ?_
      refine TL.guardYes (d := 7) rfl rfl rfl ?_
      refine TL.move rfl rfl ?_
      refine TL.guardYes (d := 7) rfl rfl rfl ?_
      refine TL.lenStr Try.underlying9 rfl rfl ?_
      refine TL.guardYes (d := 7) rfl rfl rfl ?_
      refine TL.gtr rfl rfl rfl ?_
      refine TL.pickF rfl rfl rfl rfl ?_
      refine TL.done ?_
      refine hK1 _ ?_
      refine Le.here rfl (by first | exact decide_eq_true (by omega) | exact decide_eq_false (by omega) | exact decide_eq_decide.2 (by omega) | exact decide_eq_true (by grind) | exact decide_eq_false (by grind) | exact decide_eq_decide.2 (by grind)) ?_
      repeat (first | exact Le.refl _ | refine Le.skip rfl ?_)
  refine TC.condP rfl (fun h3 => ?_) (fun h3 => ?_)
  ·
    have hor : s.length = 0 ∨ 32 < s.length := by assumption
    refine TC.seq ?_
    refine TC.region ?_
    refine TL.assign rfl rfl ?_
    refine TL.done ?_
    refine Thn.go ?_
    refine TC.ret ?_
    refine Thn.ret ?_
    refine Ends.ret [2] rfl rfl ?_
    exact ⟨congrArg Value.bool (decide_eq_false (fun h => by have := h.1; have := h.2.1; omega)).symm, rfl⟩
  ·
    have hor : ¬ (s.length = 0 ∨ 32 < s.length) := by assumption
    refine TC.skip ?_
    refine Thn.go ?_
    refine TC.seq ?_
    refine TC.seq ?_
    refine TC.region ?_
    refine TL.assign rfl rfl ?_
    refine TL.done ?_
    refine Thn.go ?_
    refine TC.block ?_
    refine TC.loop1 (fun (i : Nat) => [(0, str s), (3, .int .i64 (i : Int))]) (fun i w' => i ≤ s.length ∧ (∀ j, (h : j < s.length) → j < i → Tm.okB s[j]) ∧ w' = w) (fun i => s.length - i) 0 (by repeat (first | exact trivial | refine ⟨rfl, ?_⟩)) (⟨by omega, by intro j _ hj; omega, rfl⟩) (fun i w' hH => ?_)
    obtain ⟨hi, hg, hw'⟩ := hH
    subst hw'
    refine TC.seq ?_
    refine TC.seq ?_
    refine TC.region ?_
    refine TL.move rfl rfl ?_
    refine TL.move rfl rfl ?_
    refine TL.lenStr Try.underlying9 rfl rfl ?_
    refine TL.lss rfl rfl rfl ?_
    refine TL.done ?_
    refine Thn.go ?_
    refine TC.condP rfl (fun h4 => ?_) (fun h4 => ?_)
    ·
      have hil : i < s.length := by omega
      obtain ⟨b, hb⟩ : ∃ b, s[i] = b := ⟨_, rfl⟩
      have hbi : Tm.okB b ↔ (97 ≤ b.toNat ∧ b.toNat ≤ 122) ∨ (48 ≤ b.toNat ∧ b.toNat ≤ 57) ∨ b.toNat = 45 ∨ b.toNat = 95 ∨ b.toNat = 46 := Iff.rfl
      refine TC.skip ?_
      refine Thn.go ?_
      refine TC.seq ?_
      refine TC.block ?_
      refine TC.seq ?_
      refine TC.region ?_
      refine TL.move rfl rfl ?_
      refine TL.move rfl rfl ?_
      refine TL.indexStr Try.underlying9 rfl rfl rfl ((List.getElem?_eq_getElem hil).trans (congrArg some hb)) rfl ?_
      refine TL.assign rfl rfl ?_
      refine TL.done ?_
      refine Thn.go ?_
      refine TC.regionBool (d := 47) (p := ¬ Tm.okB b) (fun K5 hK5 => ?_) ?_
      ·
        refine TL.move rfl rfl ?_
        refine TL.geq rfl rfl rfl ?_
        refine TL.em (fun e22 => ?_) (fun e22 => ?_)
        ·
          refine TL.move rfl rfl ?_
          refine TL.guardYes (d := 23) rfl rfl rfl ?_
          refine TL.move rfl rfl ?_
          refine TL.guardYes (d := 23) rfl rfl rfl ?_
          refine TL.leq rfl rfl rfl ?_
          refine TL.em (fun e25 => ?_) (fun e25 => ?_)
          ·
            refine TL.pickT rfl rfl rfl rfl ?_
            refine TL.move rfl rfl ?_
            refine TL.guardNo (d := 27) rfl rfl rfl rfl rfl ?_
            refine TL.guardNo (d := 27) rfl rfl rfl rfl rfl ?_
            refine TL.guardNo (d := 27) rfl rfl rfl rfl rfl ?_
            refine TL.guardUndef (d := 30) rfl rfl rfl rfl ?_
            refine TL.guardUndef (d := 30) rfl rfl rfl rfl ?_
            refine TL.guardNo (d := 27) rfl rfl rfl rfl rfl ?_
            refine TL.pickT rfl rfl rfl rfl ?_
            refine TL.move rfl rfl ?_
            refine TL.guardNo (d := 35) rfl rfl rfl rfl rfl ?_
            refine TL.guardNo (d := 35) rfl rfl rfl rfl rfl ?_
            refine TL.pickT rfl rfl rfl rfl ?_
            refine TL.move rfl rfl ?_
            refine TL.guardNo (d := 39) rfl rfl rfl rfl rfl ?_
            refine TL.guardNo (d := 39) rfl rfl rfl rfl rfl ?_
            refine TL.pickT rfl rfl rfl rfl ?_
            refine TL.move rfl rfl ?_
            refine TL.guardNo (d := 43) rfl rfl rfl rfl rfl ?_
            refine TL.guardNo (d := 43) rfl rfl rfl rfl rfl ?_
            refine TL.pickT rfl rfl rfl rfl ?_
            refine TL.not rfl rfl ?_
            refine TL.done ?_
            refine hK5 _ ?_
            refine Le.here rfl (by first | exact decide_eq_true (by omega) | exact decide_eq_false (by omega) | exact decide_eq_decide.2 (by omega) | exact decide_eq_true (by grind) | exact decide_eq_false (by grind) | exact decide_eq_decide.2 (by grind)) ?_
            repeat (first | exact Le.refl _ | refine Le.skip rfl ?_)
          ·
            refine TL.pickT rfl rfl rfl rfl ?_
            refine TL.move rfl rfl ?_
            refine TL.guardYes (d := 27) rfl rfl rfl ?_
            refine TL.move rfl rfl ?_
            refine TL.guardYes (d := 27) rfl rfl rfl ?_
            refine TL.geq rfl rfl rfl ?_
            refine TL.em (fun e29 => ?_) (fun e29 => ?_)
            ·
              refine TL.guardYes (d := 27) rfl rfl rfl ?_
              refine TL.move rfl rfl ?_
              refine TL.guardYes (d := 30) rfl rfl rfl ?_
              refine TL.move rfl rfl ?_
              refine TL.guardYes (d := 30) rfl rfl rfl ?_
              refine TL.leq rfl rfl rfl ?_
              refine TL.em (fun e32 => ?_) (fun e32 => ?_)
              ·
                refine TL.guardYes (d := 27) rfl rfl rfl ?_
                refine TL.pickT rfl rfl rfl rfl ?_
                refine TL.pickF rfl rfl rfl rfl ?_
                refine TL.move rfl rfl ?_
                refine TL.guardNo (d := 35) rfl rfl rfl rfl rfl ?_
                refine TL.guardNo (d := 35) rfl rfl rfl rfl rfl ?_
                refine TL.pickT rfl rfl rfl rfl ?_
                refine TL.move rfl rfl ?_
                refine TL.guardNo (d := 39) rfl rfl rfl rfl rfl ?_
                refine TL.guardNo (d := 39) rfl rfl rfl rfl rfl ?_
                refine TL.pickT rfl rfl rfl rfl ?_
                refine TL.move rfl rfl ?_
                refine TL.guardNo (d := 43) rfl rfl rfl rfl rfl ?_
                refine TL.guardNo (d := 43) rfl rfl rfl rfl rfl ?_
                refine TL.pickT rfl rfl rfl rfl ?_
                refine TL.not rfl rfl ?_
                refine TL.done ?_
                refine hK5 _ ?_
                refine Le.here rfl (by first | exact decide_eq_true (by omega) | exact decide_eq_false (by omega) | exact decide_eq_decide.2 (by omega) | exact decide_eq_true (by grind) | exact decide_eq_false (by grind) | exact decide_eq_decide.2 (by grind)) ?_
                repeat (first | exact Le.refl _ | refine Le.skip rfl ?_)
              ·
                refine TL.guardYes (d := 27) rfl rfl rfl ?_
                refine TL.pickT rfl rfl rfl rfl ?_
                refine TL.pickF rfl rfl rfl rfl ?_
                refine TL.move rfl rfl ?_
                refine TL.guardYes (d := 35) rfl rfl rfl ?_
                refine TL.move rfl rfl ?_
                refine TL.guardYes (d := 35) rfl rfl rfl ?_
                refine TL.eql rfl rfl rfl ?_
                refine TL.em (fun e37 => ?_) (fun e37 => ?_)
                ·
                  refine TL.pickF rfl rfl rfl rfl ?_
                  refine TL.move rfl rfl ?_
                  refine TL.guardNo (d := 39) rfl rfl rfl rfl rfl ?_
                  refine TL.guardNo (d := 39) rfl rfl rfl rfl rfl ?_
                  refine TL.pickT rfl rfl rfl rfl ?_
                  refine TL.move rfl rfl ?_
                  refine TL.guardNo (d := 43) rfl rfl rfl rfl rfl ?_
                  refine TL.guardNo (d := 43) rfl rfl rfl rfl rfl ?_
                  refine TL.pickT rfl rfl rfl rfl ?_
                  refine TL.not rfl rfl ?_
                  refine TL.done ?_
                  refine hK5 _ ?_
                  refine Le.here rfl (by first | exact decide_eq_true (by omega) | exact decide_eq_false (by omega) | exact decide_eq_decide.2 (by omega) | exact decide_eq_true (by grind) | exact decide_eq_false (by grind) | exact decide_eq_decide.2 (by grind)) ?_
                  repeat (first | exact Le.refl _ | refine Le.skip rfl ?_)
                ·
                  refine TL.pickF rfl rfl rfl rfl ?_
                  refine TL.move rfl rfl ?_
                  refine TL.guardYes (d := 39) rfl rfl rfl ?_
                  refine TL.move rfl rfl ?_
                  refine TL.guardYes (d := 39) rfl rfl rfl ?_
                  refine TL.eql rfl rfl rfl ?_
                  refine TL.em (fun e41 => ?_) (fun e41 => ?_)
                  ·
                    refine TL.pickF rfl rfl rfl rfl ?_
                    refine TL.move rfl rfl ?_
                    refine TL.guardNo (d := 43) rfl rfl rfl rfl rfl ?_
                    refine TL.guardNo (d := 43) rfl rfl rfl rfl rfl ?_
                    refine TL.pickT rfl rfl rfl rfl ?_
                    refine TL.not rfl rfl ?_
                    refine TL.done ?_
                    refine hK5 _ ?_
                    refine Le.here rfl (by first | exact decide_eq_true (by omega) | exact decide_eq_false (by omega) | exact decide_eq_decide.2 (by omega) | exact decide_eq_true (by grind) | exact decide_eq_false (by grind) | exact decide_eq_decide.2 (by grind)) ?_
                    repeat (first | exact Le.refl _ | refine Le.skip rfl ?_)
                  ·
                    refine TL.pickF rfl rfl rfl rfl ?_
                    refine TL.move rfl rfl ?_
                    refine TL.guardYes (d := 43) rfl rfl rfl ?_
                    refine TL.move rfl rfl ?_
                    refine TL.guardYes (d := 43) rfl rfl rfl ?_
                    refine TL.eql rfl rfl rfl ?_
                    refine TL.pickF rfl rfl rfl rfl ?_
                    refine TL.notP rfl rfl ?_
                    refine TL.done ?_
                    refine hK5 _ ?_
                    refine Le.here rfl (by first | exact decide_eq_true (by omega) | exact decide_eq_false (by omega) | exact decide_eq_decide.2 (by omega) | exact decide_eq_true (by grind) | exact decide_eq_false (by grind) | exact decide_eq_decide.2 (by grind)) ?_
                    repeat (first | exact Le.refl _ | refine Le.skip rfl ?_)
            ·
              refine TL.guardYes (d := 27) rfl rfl rfl ?_
              refine TL.move rfl rfl ?_
              refine TL.guardNo (d := 30) rfl rfl rfl rfl rfl ?_
              refine TL.guardNo (d := 30) rfl rfl rfl rfl rfl ?_
              refine TL.guardYes (d := 27) rfl rfl rfl ?_
              refine TL.pickF rfl rfl rfl rfl ?_
              refine TL.pickF rfl rfl rfl rfl ?_
              refine TL.move rfl rfl ?_
              refine TL.guardYes (d := 35) rfl rfl rfl ?_
              refine TL.move rfl rfl ?_
              refine TL.guardYes (d := 35) rfl rfl rfl ?_
              refine TL.eql rfl rfl rfl ?_
              refine TL.em (fun e37 => ?_) (fun e37 => ?_)
              ·
                refine TL.pickF rfl rfl rfl rfl ?_
                refine TL.move rfl rfl ?_
                refine TL.guardNo (d := 39) rfl rfl rfl rfl rfl ?_
                refine TL.guardNo (d := 39) rfl rfl rfl rfl rfl ?_
                refine TL.pickT rfl rfl rfl rfl ?_
                refine TL.move rfl rfl ?_
                refine TL.guardNo (d := 43) rfl rfl rfl rfl rfl ?_
                refine TL.guardNo (d := 43) rfl rfl rfl rfl rfl ?_
                refine TL.pickT rfl rfl rfl rfl ?_
                refine TL.not rfl rfl ?_
                refine TL.done ?_
                refine hK5 _ ?_
                refine Le.here rfl (by first | exact decide_eq_true (by omega) | exact decide_eq_false (by omega) | exact decide_eq_decide.2 (by omega) | exact decide_eq_true (by grind) | exact decide_eq_false (by grind) | exact decide_eq_decide.2 (by grind)) ?_
                repeat (first | exact Le.refl _ | refine Le.skip rfl ?_)
              ·
                refine TL.pickF rfl rfl rfl rfl ?_
                refine TL.move rfl rfl ?_
                refine TL.guardYes (d := 39) rfl rfl rfl ?_
                refine TL.move rfl rfl ?_
                refine TL.guardYes (d := 39) rfl rfl rfl ?_
                refine TL.eql rfl rfl rfl ?_
                refine TL.em (fun e41 => ?_) (fun e41 => ?_)
                ·
                  refine TL.pickF rfl rfl rfl rfl ?_
                  refine TL.move rfl rfl ?_
                  refine TL.guardNo (d := 43) rfl rfl rfl rfl rfl ?_
                  refine TL.guardNo (d := 43) rfl rfl rfl rfl rfl ?_
                  refine TL.pickT rfl rfl rfl rfl ?_
                  refine TL.not rfl rfl ?_
                  refine TL.done ?_
                  refine hK5 _ ?_
                  refine Le.here rfl (by first | exact decide_eq_true (by omega) | exact decide_eq_false (by omega) | exact decide_eq_decide.2 (by omega) | exact decide_eq_true (by grind) | exact decide_eq_false (by grind) | exact decide_eq_decide.2 (by grind)) ?_
                  repeat (first | exact Le.refl _ | refine Le.skip rfl ?_)
                ·
                  refine TL.pickF rfl rfl rfl rfl ?_
                  refine TL.move rfl rfl ?_
                  refine TL.guardYes (d := 43) rfl rfl rfl ?_
                  refine TL.move rfl rfl ?_
                  refine TL.guardYes (d := 43) rfl rfl rfl ?_
                  refine TL.eql rfl rfl rfl ?_
                  refine TL.pickF rfl rfl rfl rfl ?_
                  refine TL.notP rfl rfl ?_
                  refine TL.done ?_
                  refine hK5 _ ?_
                  refine Le.here rfl (by first | exact decide_eq_true (by omega) | exact decide_eq_false (by omega) | exact decide_eq_decide.2 (by omega) | exact decide_eq_true (by grind) | exact decide_eq_false (by grind) | exact decide_eq_decide.2 (by grind)) ?_
                  repeat (first | exact Le.refl _ | refine Le.skip rfl ?_)
        ·
          refine TL.move rfl rfl ?_
          refine TL.guardNo (d := 23) rfl rfl rfl rfl rfl ?_
          refine TL.guardNo (d := 23) rfl rfl rfl rfl rfl ?_
          refine TL.pickF rfl rfl rfl rfl ?_
          refine TL.move rfl rfl ?_
          refine TL.guardYes (d := 27) rfl rfl rfl ?_
          refine TL.move rfl rfl ?_
          refine TL.guardYes (d := 27) rfl rfl rfl ?_
          refine TL.geq rfl rfl rfl ?_
          refine TL.em (fun e29 => ?_) (fun e29 => ?_)
          ·
            refine TL.guardYes (d := 27) rfl rfl rfl ?_
            refine TL.move rfl rfl ?_
            refine TL.guardYes (d := 30) rfl rfl rfl ?_
            refine TL.move rfl rfl ?_
            refine TL.guardYes (d := 30) rfl rfl rfl ?_
            refine TL.leq rfl rfl rfl ?_
            refine TL.em (fun e32 => ?_) (fun e32 => ?_)
            ·
              refine TL.guardYes (d := 27) rfl rfl rfl ?_
              refine TL.pickT rfl rfl rfl rfl ?_
              refine TL.pickF rfl rfl rfl rfl ?_
              refine TL.move rfl rfl ?_
              refine TL.guardNo (d := 35) rfl rfl rfl rfl rfl ?_
              refine TL.guardNo (d := 35) rfl rfl rfl rfl rfl ?_
              refine TL.pickT rfl rfl rfl rfl ?_
              refine TL.move rfl rfl ?_
              refine TL.guardNo (d := 39) rfl rfl rfl rfl rfl ?_
              refine TL.guardNo (d := 39) rfl rfl rfl rfl rfl ?_
              refine TL.pickT rfl rfl rfl rfl ?_
              refine TL.move rfl rfl ?_
              refine TL.guardNo (d := 43) rfl rfl rfl rfl rfl ?_
              refine TL.guardNo (d := 43) rfl rfl rfl rfl rfl ?_
              refine TL.pickT rfl rfl rfl rfl ?_
              refine TL.not rfl rfl ?_
              refine TL.done ?_
              refine hK5 _ ?_
              refine Le.here rfl (by first | exact decide_eq_true (by omega) | exact decide_eq_false (by omega) | exact decide_eq_decide.2 (by omega) | exact decide_eq_true (by grind) | exact decide_eq_false (by grind) | exact decide_eq_decide.2 (by grind)) ?_
              repeat (first | exact Le.refl _ | refine Le.skip rfl ?_)
            ·
              refine TL.guardYes (d := 27) rfl rfl rfl ?_
              refine TL.pickT rfl rfl rfl rfl ?_
              refine TL.pickF rfl rfl rfl rfl ?_
              refine TL.move rfl rfl ?_
              refine TL.guardYes (d := 35) rfl rfl rfl ?_
              refine TL.move rfl rfl ?_
              refine TL.guardYes (d := 35) rfl rfl rfl ?_
              refine TL.eql rfl rfl rfl ?_
              refine TL.em (fun e37 => ?_) (fun e37 => ?_)
              ·
                refine TL.pickF rfl rfl rfl rfl ?_
                refine TL.move rfl rfl ?_
                refine TL.guardNo (d := 39) rfl rfl rfl rfl rfl ?_
                refine TL.guardNo (d := 39) rfl rfl rfl rfl rfl ?_
                refine TL.pickT rfl rfl rfl rfl ?_
                refine TL.move rfl rfl ?_
                refine TL.guardNo (d := 43) rfl rfl rfl rfl rfl ?_
                refine TL.guardNo (d := 43) rfl rfl rfl rfl rfl ?_
                refine TL.pickT rfl rfl rfl rfl ?_
                refine TL.not rfl rfl ?_
                refine TL.done ?_
                refine hK5 _ ?_
                refine Le.here rfl (by first | exact decide_eq_true (by omega) | exact decide_eq_false (by omega) | exact decide_eq_decide.2 (by omega) | exact decide_eq_true (by grind) | exact decide_eq_false (by grind) | exact decide_eq_decide.2 (by grind)) ?_
                repeat (first | exact Le.refl _ | refine Le.skip rfl ?_)
              ·
                refine TL.pickF rfl rfl rfl rfl ?_
                refine TL.move rfl rfl ?_
                refine TL.guardYes (d := 39) rfl rfl rfl ?_
                refine TL.move rfl rfl ?_
                refine TL.guardYes (d := 39) rfl rfl rfl ?_
                refine TL.eql rfl rfl rfl ?_
                refine TL.em (fun e41 => ?_) (fun e41 => ?_)
                ·
                  refine TL.pickF rfl rfl rfl rfl ?_
                  refine TL.move rfl rfl ?_
                  refine TL.guardNo (d := 43) rfl rfl rfl rfl rfl ?_
                  refine TL.guardNo (d := 43) rfl rfl rfl rfl rfl ?_
                  refine TL.pickT rfl rfl rfl rfl ?_
                  refine TL.not rfl rfl ?_
                  refine TL.done ?_
                  refine hK5 _ ?_
                  refine Le.here rfl (by first | exact decide_eq_true (by omega) | exact decide_eq_false (by omega) | exact decide_eq_decide.2 (by omega) | exact decide_eq_true (by grind) | exact decide_eq_false (by grind) | exact decide_eq_decide.2 (by grind)) ?_
                  repeat (first | exact Le.refl _ | refine Le.skip rfl ?_)
                ·
                  refine TL.pickF rfl rfl rfl rfl ?_
                  refine TL.move rfl rfl ?_
                  refine TL.guardYes (d := 43) rfl rfl rfl ?_
                  refine TL.move rfl rfl ?_
                  refine TL.guardYes (d := 43) rfl rfl rfl ?_
                  refine TL.eql rfl rfl rfl ?_
                  refine TL.pickF rfl rfl rfl rfl ?_
                  refine TL.notP rfl rfl ?_
                  refine TL.done ?_
                  refine hK5 _ ?_
                  refine Le.here rfl (by first | exact decide_eq_true (by omega) | exact decide_eq_false (by omega) | exact decide_eq_decide.2 (by omega) | exact decide_eq_true (by grind) | exact decide_eq_false (by grind) | exact decide_eq_decide.2 (by grind)) ?_
                  repeat (first | exact Le.refl _ | refine Le.skip rfl ?_)
          ·
            refine TL.guardYes (d := 27) rfl rfl rfl ?_
            refine TL.move rfl rfl ?_
            refine TL.guardNo (d := 30) rfl rfl rfl rfl rfl ?_
            refine TL.guardNo (d := 30) rfl rfl rfl rfl rfl ?_
            refine TL.guardYes (d := 27) rfl rfl rfl ?_
            refine TL.pickF rfl rfl rfl rfl ?_
            refine TL.pickF rfl rfl rfl rfl ?_
            refine TL.move rfl rfl ?_
            refine TL.guardYes (d := 35) rfl rfl rfl ?_
            refine TL.move rfl rfl ?_
            refine TL.guardYes (d := 35) rfl rfl rfl ?_
            refine TL.eql rfl rfl rfl ?_
            refine TL.em (fun e37 => ?_) (fun e37 => ?_)
            ·
              refine TL.pickF rfl rfl rfl rfl ?_
              refine TL.move rfl rfl ?_
              refine TL.guardNo (d := 39) rfl rfl rfl rfl rfl ?_
              refine TL.guardNo (d := 39) rfl rfl rfl rfl rfl ?_
              refine TL.pickT rfl rfl rfl rfl ?_
              refine TL.move rfl rfl ?_
              refine TL.guardNo (d := 43) rfl rfl rfl rfl rfl ?_
              refine TL.guardNo (d := 43) rfl rfl rfl rfl rfl ?_
              refine TL.pickT rfl rfl rfl rfl ?_
              refine TL.not rfl rfl ?_
              refine TL.done ?_
              refine hK5 _ ?_
              refine Le.here rfl (by first | exact decide_eq_true (by omega) | exact decide_eq_false (by omega) | exact decide_eq_decide.2 (by omega) | exact decide_eq_true (by grind) | exact decide_eq_false (by grind) | exact decide_eq_decide.2 (by grind)) ?_
              repeat (first | exact Le.refl _ | refine Le.skip rfl ?_)
            ·
              refine TL.pickF rfl rfl rfl rfl ?_
              refine TL.move rfl rfl ?_
              refine TL.guardYes (d := 39) rfl rfl rfl ?_
              refine TL.move rfl rfl ?_
              refine TL.guardYes (d := 39) rfl rfl rfl ?_
              refine TL.eql rfl rfl rfl ?_
              refine TL.em (fun e41 => ?_) (fun e41 => ?_)
              ·
                refine TL.pickF rfl rfl rfl rfl ?_
                refine TL.move rfl rfl ?_
                refine TL.guardNo (d := 43) rfl rfl rfl rfl rfl ?_
                refine TL.guardNo (d := 43) rfl rfl rfl rfl rfl ?_
                refine TL.pickT rfl rfl rfl rfl ?_
                refine TL.not rfl rfl ?_
                refine TL.done ?_
                refine hK5 _ ?_
                refine Le.here rfl (by first | exact decide_eq_true (by omega) | exact decide_eq_false (by omega) | exact decide_eq_decide.2 (by omega) | exact decide_eq_true (by grind) | exact decide_eq_false (by grind) | exact decide_eq_decide.2 (by grind)) ?_
                repeat (first | exact Le.refl _ | refine Le.skip rfl ?_)
              ·
                refine TL.pickF rfl rfl rfl rfl ?_
                refine TL.move rfl rfl ?_
                refine TL.guardYes (d := 43) rfl rfl rfl ?_
                refine TL.move rfl rfl ?_
                refine TL.guardYes (d := 43) rfl rfl rfl ?_
                refine TL.eql rfl rfl rfl ?_
                refine TL.pickF rfl rfl rfl rfl ?_
                refine TL.notP rfl rfl ?_
                refine TL.done ?_
                refine hK5 _ ?_
                refine Le.here rfl (by first | exact decide_eq_true (by omega) | exact decide_eq_false (by omega) | exact decide_eq_decide.2 (by omega) | exact decide_eq_true (by grind) | exact decide_eq_false (by grind) | exact decide_eq_decide.2 (by grind)) ?_
                repeat (first | exact Le.refl _ | refine Le.skip rfl ?_)
      refine TC.condP rfl (fun h20 => ?_) (fun h20 => ?_)
      ·
        refine TC.seq ?_
        refine TC.region ?_
        refine TL.assign rfl rfl ?_
        refine TL.done ?_
        refine Thn.go ?_
        refine TC.ret ?_
        refine Blk.ret ?_
        refine Thn.ret ?_
        refine Lp.ret ?_
        refine Blk.ret ?_
        refine Thn.ret ?_
        refine Ends.ret [2] rfl rfl ?_
        exact ⟨congrArg Value.bool (decide_eq_false (fun h => by have := h.2.2 s[i] (List.getElem_mem hil); rw [hb] at this; exact absurd this (by assumption))).symm, rfl⟩
      ·
        refine TC.skip ?_
        refine Blk.go ?_
        refine Thn.go ?_
        refine TC.region ?_
        refine TL.move rfl rfl ?_
        refine TL.add_i64 rfl rfl (by omega) (by omega) rfl ?_
        refine TL.assign rfl rfl ?_
        refine TL.done ?_
        refine Lp.go (i + 1) (by repeat (first | exact trivial | refine ⟨rfl, ?_⟩)) ?_ (by first | omega | (dsimp only; omega))
        refine ⟨by omega, fun j hj hj2 => ?_, rfl⟩
        rcases Nat.lt_or_ge j i with h | h
        · exact hg j hj h
        · obtain rfl : j = i := by omega
          rw [hb]; exact Decidable.not_not.1 (by assumption)
    ·
      have hil : i = s.length := by omega
      refine TC.exit ?_
      refine Thn.exit ?_
      refine Lp.exit ?_
      refine Blk.hit ?_
      refine Thn.go ?_
      refine TC.seq ?_
      refine TC.region ?_
      refine TL.assign rfl rfl ?_
      refine TL.done ?_
      refine Thn.go ?_
      refine TC.ret ?_
      refine Ends.ret [2] rfl rfl ?_
      exact ⟨congrArg Value.bool (decide_eq_true ⟨by omega, by omega, fun b hb => by obtain ⟨j, hj, rfl⟩ := List.getElem_of_mem hb; exact hg j hj (by omega)⟩).symm, rfl⟩

theorem fn28 (r : Tm.Timer) (w : World) : Rets Try.prog 28 #[.agg (cl r).toArray] w (fun v w' => v = .bool (decide (Tm.may r)) ∧ Ch [] w w') := by
  have hiff : Tm.may r ↔ (r.at_ ≥ 0 ∧ r.at_ ≤ 1099511627776 ∧ r.seq ≥ 0 ∧ r.seq ≤ 2147483647 ∧ r.cas ≥ 0 ∧ r.cas ≤ 2147483647 ∧ Tm.named r.stage ∧ Tm.named r.event) := Iff.rfl
  refine Rets.of (n := 41) (vs := [_]) Try.func28 rfl rfl rfl ?_
  refine TC.seq ?_
  refine TC.region ?_
  refine TL.box rfl rfl (fun w1 hb1 hc1 hz1 => ?_)
  refine TL.assign rfl rfl ?_
  refine TL.done ?_
  refine Thn.go ?_
  refine TC.cut0 ([(2, .bool (decide (Tm.may r)))]) (fun w2 => Ch [] w1 w2) (fun K1 hK1 => ?_) (fun w2 hH => ?_)
  ·
    refine TC.region ?_
    refine TL.fieldAddr fd27k0 rfl rfl ?_
    refine TL.load pl3 rfl (hb1.cell _) rfl ?_
    refine TL.geq rfl rfl rfl ?_
    refine TL.em (fun e5 => ?_) (fun e5 => ?_)
    ·
      refine TL.move rfl rfl ?_
      refine TL.guardYes (d := 6) rfl rfl rfl ?_
      refine TL.fieldAddr fd27k0 rfl rfl ?_
      refine TL.guardYes (d := 6) rfl rfl rfl ?_
      refine TL.load pl3 rfl (hb1.cell _) rfl ?_
      refine TL.guardYes (d := 6) rfl rfl rfl ?_
      refine TL.leq rfl rfl rfl ?_
      refine TL.em (fun e9 => ?_) (fun e9 => ?_)
      ·
        refine TL.pickT rfl rfl rfl rfl ?_
        refine TL.move rfl rfl ?_
        refine TL.guardYes (d := 11) rfl rfl rfl ?_
        refine TL.fieldAddr fd27k1 rfl rfl ?_
        refine TL.guardYes (d := 11) rfl rfl rfl ?_
        refine TL.load pl3 rfl (hb1.cell _) rfl ?_
        refine TL.guardYes (d := 11) rfl rfl rfl ?_
        refine TL.geq rfl rfl rfl ?_
        refine TL.em (fun e14 => ?_) (fun e14 => ?_)
        ·
          refine TL.pickT rfl rfl rfl rfl ?_
          refine TL.move rfl rfl ?_
          refine TL.guardYes (d := 16) rfl rfl rfl ?_
          refine TL.fieldAddr fd27k1 rfl rfl ?_
          refine TL.guardYes (d := 16) rfl rfl rfl ?_
          refine TL.load pl3 rfl (hb1.cell _) rfl ?_
          refine TL.guardYes (d := 16) rfl rfl rfl ?_
          refine TL.leq rfl rfl rfl ?_
          refine TL.em (fun e19 => ?_) (fun e19 => ?_)
          ·
            refine TL.pickT rfl rfl rfl rfl ?_
            refine TL.move rfl rfl ?_
            refine TL.guardYes (d := 21) rfl rfl rfl ?_
            refine TL.fieldAddr fd27k2 rfl rfl ?_
            refine TL.guardYes (d := 21) rfl rfl rfl ?_
            refine TL.load pl3 rfl (hb1.cell _) rfl ?_
            refine TL.guardYes (d := 21) rfl rfl rfl ?_
            refine TL.geq rfl rfl rfl ?_
            refine TL.em (fun e24 => ?_) (fun e24 => ?_)
            ·
              refine TL.pickT rfl rfl rfl rfl ?_
              refine TL.move rfl rfl ?_
              refine TL.guardYes (d := 26) rfl rfl rfl ?_
              refine TL.fieldAddr fd27k2 rfl rfl ?_
              refine TL.guardYes (d := 26) rfl rfl rfl ?_
              refine TL.load pl3 rfl (hb1.cell _) rfl ?_
              refine TL.guardYes (d := 26) rfl rfl rfl ?_
              refine TL.leq rfl rfl rfl ?_
              refine TL.em (fun e29 => ?_) (fun e29 => ?_)
              ·
                refine TL.pickT rfl rfl rfl rfl ?_
                refine TL.move rfl rfl ?_
                refine TL.guardYes (d := 31) rfl rfl rfl ?_
                refine TL.fieldAddr fd27k3 rfl rfl ?_
                refine TL.guardYes (d := 31) rfl rfl rfl ?_
                refine TL.load pl9 rfl (hb1.cell _) rfl ?_
                refine TL.guardYes (d := 31) rfl rfl rfl ?_
                refine TL.call can42 rfl rfl (fn42 r.stage w1) (fun v34 w34 hr34 => ?_)
                obtain ⟨rfl, hc34⟩ := hr34
                refine TL.em (fun e34 => ?_) (fun e34 => ?_)
                ·
                  refine TL.pickT rfl rfl rfl rfl ?_
                  refine TL.move rfl rfl ?_
                  refine TL.guardYes (d := 36) rfl rfl rfl ?_
                  refine TL.fieldAddr fd27k4 rfl rfl ?_
                  refine TL.guardYes (d := 36) rfl rfl rfl ?_
                  refine TL.load pl9 rfl ((hb1.ch0 hc34).cell _) rfl ?_
                  refine TL.guardYes (d := 36) rfl rfl rfl ?_
                  refine TL.call can42 rfl rfl (fn42 r.event w34) (fun v39 w39 hr39 => ?_)
                  obtain ⟨rfl, hc39⟩ := hr39
                  refine TL.pickT rfl rfl rfl rfl ?_
                  refine TL.assign rfl rfl ?_
                  refine TL.done ?_
                  exact hK1  _ _ (by repeat (first | exact trivial | refine ⟨rfl, ?_⟩ | refine ⟨congrArg (fun b => some (Value.bool b)) (by first | exact (decide_eq_true (by grind)).symm | exact (decide_eq_false (by grind)).symm | exact decide_eq_decide.2 (by grind) | exact decide_eq_true (by grind) | exact decide_eq_false (by grind) | (exfalso; grind)), ?_⟩)) (by first | exact hc34.trans0 hc39 | exact hc34 | exact Ch.refl _ _)
                ·
                  refine TL.pickT rfl rfl rfl rfl ?_
                  refine TL.move rfl rfl ?_
                  refine TL.guardNo (d := 36) rfl rfl rfl rfl rfl ?_
                  refine TL.guardNo (d := 36) rfl rfl rfl rfl rfl ?_
                  refine TL.guardNo (d := 36) rfl rfl rfl rfl rfl ?_
                  refine TL.pickF rfl rfl rfl rfl ?_
                  refine TL.assign rfl rfl ?_
                  refine TL.done ?_
                  exact hK1  _ _ (by repeat (first | exact trivial | refine ⟨rfl, ?_⟩ | refine ⟨congrArg (fun b => some (Value.bool b)) (by first | exact (decide_eq_true (by grind)).symm | exact (decide_eq_false (by grind)).symm | exact decide_eq_decide.2 (by grind) | exact decide_eq_true (by grind) | exact decide_eq_false (by grind) | (exfalso; grind)), ?_⟩)) (by first | exact hc34.trans0 hc39 | exact hc34 | exact Ch.refl _ _)
              ·
                refine TL.pickT rfl rfl rfl rfl ?_
                refine TL.move rfl rfl ?_
                refine TL.guardNo (d := 31) rfl rfl rfl rfl rfl ?_
                refine TL.guardNo (d := 31) rfl rfl rfl rfl rfl ?_
                refine TL.guardNo (d := 31) rfl rfl rfl rfl rfl ?_
                refine TL.pickF rfl rfl rfl rfl ?_
                refine TL.move rfl rfl ?_
                refine TL.guardNo (d := 36) rfl rfl rfl rfl rfl ?_
                refine TL.guardNo (d := 36) rfl rfl rfl rfl rfl ?_
                refine TL.guardNo (d := 36) rfl rfl rfl rfl rfl ?_
                refine TL.pickF rfl rfl rfl rfl ?_
                refine TL.assign rfl rfl ?_
                refine TL.done ?_
                exact hK1  _ _ (by repeat (first | exact trivial | refine ⟨rfl, ?_⟩ | refine ⟨congrArg (fun b => some (Value.bool b)) (by first | exact (decide_eq_true (by grind)).symm | exact (decide_eq_false (by grind)).symm | exact decide_eq_decide.2 (by grind) | exact decide_eq_true (by grind) | exact decide_eq_false (by grind) | (exfalso; grind)), ?_⟩)) (by first | exact hc34.trans0 hc39 | exact hc34 | exact Ch.refl _ _)
            ·
              refine TL.pickT rfl rfl rfl rfl ?_
              refine TL.move rfl rfl ?_
              refine TL.guardNo (d := 26) rfl rfl rfl rfl rfl ?_
              refine TL.guardNo (d := 26) rfl rfl rfl rfl rfl ?_
              refine TL.guardNo (d := 26) rfl rfl rfl rfl rfl ?_
              refine TL.pickF rfl rfl rfl rfl ?_
              refine TL.move rfl rfl ?_
              refine TL.guardNo (d := 31) rfl rfl rfl rfl rfl ?_
              refine TL.guardNo (d := 31) rfl rfl rfl rfl rfl ?_
              refine TL.guardNo (d := 31) rfl rfl rfl rfl rfl ?_
              refine TL.pickF rfl rfl rfl rfl ?_
              refine TL.move rfl rfl ?_
              refine TL.guardNo (d := 36) rfl rfl rfl rfl rfl ?_
              refine TL.guardNo (d := 36) rfl rfl rfl rfl rfl ?_
              refine TL.guardNo (d := 36) rfl rfl rfl rfl rfl ?_
              refine TL.pickF rfl rfl rfl rfl ?_
              refine TL.assign rfl rfl ?_
              refine TL.done ?_
              exact hK1  _ _ (by repeat (first | exact trivial | refine ⟨rfl, ?_⟩ | refine ⟨congrArg (fun b => some (Value.bool b)) (by first | exact (decide_eq_true (by grind)).symm | exact (decide_eq_false (by grind)).symm | exact decide_eq_decide.2 (by grind) | exact decide_eq_true (by grind) | exact decide_eq_false (by grind) | (exfalso; grind)), ?_⟩)) (by first | exact hc34.trans0 hc39 | exact hc34 | exact Ch.refl _ _)
          ·
            refine TL.pickT rfl rfl rfl rfl ?_
            refine TL.move rfl rfl ?_
            refine TL.guardNo (d := 21) rfl rfl rfl rfl rfl ?_
            refine TL.guardNo (d := 21) rfl rfl rfl rfl rfl ?_
            refine TL.guardNo (d := 21) rfl rfl rfl rfl rfl ?_
            refine TL.pickF rfl rfl rfl rfl ?_
            refine TL.move rfl rfl ?_
            refine TL.guardNo (d := 26) rfl rfl rfl rfl rfl ?_
            refine TL.guardNo (d := 26) rfl rfl rfl rfl rfl ?_
            refine TL.guardNo (d := 26) rfl rfl rfl rfl rfl ?_
            refine TL.pickF rfl rfl rfl rfl ?_
            refine TL.move rfl rfl ?_
            refine TL.guardNo (d := 31) rfl rfl rfl rfl rfl ?_
            refine TL.guardNo (d := 31) rfl rfl rfl rfl rfl ?_
            refine TL.guardNo (d := 31) rfl rfl rfl rfl rfl ?_
            refine TL.pickF rfl rfl rfl rfl ?_
            refine TL.move rfl rfl ?_
            refine TL.guardNo (d := 36) rfl rfl rfl rfl rfl ?_
            refine TL.guardNo (d := 36) rfl rfl rfl rfl rfl ?_
            refine TL.guardNo (d := 36) rfl rfl rfl rfl rfl ?_
            refine TL.pickF rfl rfl rfl rfl ?_
            refine TL.assign rfl rfl ?_
            refine TL.done ?_
            exact hK1  _ _ (by repeat (first | exact trivial | refine ⟨rfl, ?_⟩ | refine ⟨congrArg (fun b => some (Value.bool b)) (by first | exact (decide_eq_true (by grind)).symm | exact (decide_eq_false (by grind)).symm | exact decide_eq_decide.2 (by grind) | exact decide_eq_true (by grind) | exact decide_eq_false (by grind) | (exfalso; grind)), ?_⟩)) (by first | exact hc34.trans0 hc39 | exact hc34 | exact Ch.refl _ _)
        ·
          refine TL.pickT rfl rfl rfl rfl ?_
          refine TL.move rfl rfl ?_
          refine TL.guardNo (d := 16) rfl rfl rfl rfl rfl ?_
          refine TL.guardNo (d := 16) rfl rfl rfl rfl rfl ?_
          refine TL.guardNo (d := 16) rfl rfl rfl rfl rfl ?_
          refine TL.pickF rfl rfl rfl rfl ?_
          refine TL.move rfl rfl ?_
          refine TL.guardNo (d := 21) rfl rfl rfl rfl rfl ?_
          refine TL.guardNo (d := 21) rfl rfl rfl rfl rfl ?_
          refine TL.guardNo (d := 21) rfl rfl rfl rfl rfl ?_
          refine TL.pickF rfl rfl rfl rfl ?_
          refine TL.move rfl rfl ?_
          refine TL.guardNo (d := 26) rfl rfl rfl rfl rfl ?_
          refine TL.guardNo (d := 26) rfl rfl rfl rfl rfl ?_
          refine TL.guardNo (d := 26) rfl rfl rfl rfl rfl ?_
          refine TL.pickF rfl rfl rfl rfl ?_
          refine TL.move rfl rfl ?_
          refine TL.guardNo (d := 31) rfl rfl rfl rfl rfl ?_
          refine TL.guardNo (d := 31) rfl rfl rfl rfl rfl ?_
          refine TL.guardNo (d := 31) rfl rfl rfl rfl rfl ?_
          refine TL.pickF rfl rfl rfl rfl ?_
          refine TL.move rfl rfl ?_
          refine TL.guardNo (d := 36) rfl rfl rfl rfl rfl ?_
          refine TL.guardNo (d := 36) rfl rfl rfl rfl rfl ?_
          refine TL.guardNo (d := 36) rfl rfl rfl rfl rfl ?_
          refine TL.pickF rfl rfl rfl rfl ?_
          refine TL.assign rfl rfl ?_
          refine TL.done ?_
          exact hK1  _ _ (by repeat (first | exact trivial | refine ⟨rfl, ?_⟩ | refine ⟨congrArg (fun b => some (Value.bool b)) (by first | exact (decide_eq_true (by grind)).symm | exact (decide_eq_false (by grind)).symm | exact decide_eq_decide.2 (by grind) | exact decide_eq_true (by grind) | exact decide_eq_false (by grind) | (exfalso; grind)), ?_⟩)) (by first | exact hc34.trans0 hc39 | exact hc34 | exact Ch.refl _ _)
      ·
        refine TL.pickT rfl rfl rfl rfl ?_
        refine TL.move rfl rfl ?_
        refine TL.guardNo (d := 11) rfl rfl rfl rfl rfl ?_
        refine TL.guardNo (d := 11) rfl rfl rfl rfl rfl ?_
        refine TL.guardNo (d := 11) rfl rfl rfl rfl rfl ?_
        refine TL.pickF rfl rfl rfl rfl ?_
        refine TL.move rfl rfl ?_
        refine TL.guardNo (d := 16) rfl rfl rfl rfl rfl ?_
        refine TL.guardNo (d := 16) rfl rfl rfl rfl rfl ?_
        refine TL.guardNo (d := 16) rfl rfl rfl rfl rfl ?_
        refine TL.pickF rfl rfl rfl rfl ?_
        refine TL.move rfl rfl ?_
        refine TL.guardNo (d := 21) rfl rfl rfl rfl rfl ?_
        refine TL.guardNo (d := 21) rfl rfl rfl rfl rfl ?_
        refine TL.guardNo (d := 21) rfl rfl rfl rfl rfl ?_
        refine TL.pickF rfl rfl rfl rfl ?_
        refine TL.move rfl rfl ?_
        refine TL.guardNo (d := 26) rfl rfl rfl rfl rfl ?_
        refine TL.guardNo (d := 26) rfl rfl rfl rfl rfl ?_
        refine TL.guardNo (d := 26) rfl rfl rfl rfl rfl ?_
        refine TL.pickF rfl rfl rfl rfl ?_
        refine TL.move rfl rfl ?_
        refine TL.guardNo (d := 31) rfl rfl rfl rfl rfl ?_
        refine TL.guardNo (d := 31) rfl rfl rfl rfl rfl ?_
        refine TL.guardNo (d := 31) rfl rfl rfl rfl rfl ?_
        refine TL.pickF rfl rfl rfl rfl ?_
        refine TL.move rfl rfl ?_
        refine TL.guardNo (d := 36) rfl rfl rfl rfl rfl ?_
        refine TL.guardNo (d := 36) rfl rfl rfl rfl rfl ?_
        refine TL.guardNo (d := 36) rfl rfl rfl rfl rfl ?_
        refine TL.pickF rfl rfl rfl rfl ?_
        refine TL.assign rfl rfl ?_
        refine TL.done ?_
        exact hK1  _ _ (by repeat (first | exact trivial | refine ⟨rfl, ?_⟩ | refine ⟨congrArg (fun b => some (Value.bool b)) (by first | exact (decide_eq_true (by grind)).symm | exact (decide_eq_false (by grind)).symm | exact decide_eq_decide.2 (by grind) | exact decide_eq_true (by grind) | exact decide_eq_false (by grind) | (exfalso; grind)), ?_⟩)) (by first | exact hc34.trans0 hc39 | exact hc34 | exact Ch.refl _ _)
    ·
      refine TL.move rfl rfl ?_
      refine TL.guardNo (d := 6) rfl rfl rfl rfl rfl ?_
      refine TL.guardNo (d := 6) rfl rfl rfl rfl rfl ?_
      refine TL.guardNo (d := 6) rfl rfl rfl rfl rfl ?_
      refine TL.pickF rfl rfl rfl rfl ?_
      refine TL.move rfl rfl ?_
      refine TL.guardNo (d := 11) rfl rfl rfl rfl rfl ?_
      refine TL.guardNo (d := 11) rfl rfl rfl rfl rfl ?_
      refine TL.guardNo (d := 11) rfl rfl rfl rfl rfl ?_
      refine TL.pickF rfl rfl rfl rfl ?_
      refine TL.move rfl rfl ?_
      refine TL.guardNo (d := 16) rfl rfl rfl rfl rfl ?_
      refine TL.guardNo (d := 16) rfl rfl rfl rfl rfl ?_
      refine TL.guardNo (d := 16) rfl rfl rfl rfl rfl ?_
      refine TL.pickF rfl rfl rfl rfl ?_
      refine TL.move rfl rfl ?_
      refine TL.guardNo (d := 21) rfl rfl rfl rfl rfl ?_
      refine TL.guardNo (d := 21) rfl rfl rfl rfl rfl ?_
      refine TL.guardNo (d := 21) rfl rfl rfl rfl rfl ?_
      refine TL.pickF rfl rfl rfl rfl ?_
      refine TL.move rfl rfl ?_
      refine TL.guardNo (d := 26) rfl rfl rfl rfl rfl ?_
      refine TL.guardNo (d := 26) rfl rfl rfl rfl rfl ?_
      refine TL.guardNo (d := 26) rfl rfl rfl rfl rfl ?_
      refine TL.pickF rfl rfl rfl rfl ?_
      refine TL.move rfl rfl ?_
      refine TL.guardNo (d := 31) rfl rfl rfl rfl rfl ?_
      refine TL.guardNo (d := 31) rfl rfl rfl rfl rfl ?_
      refine TL.guardNo (d := 31) rfl rfl rfl rfl rfl ?_
      refine TL.pickF rfl rfl rfl rfl ?_
      refine TL.move rfl rfl ?_
      refine TL.guardNo (d := 36) rfl rfl rfl rfl rfl ?_
      refine TL.guardNo (d := 36) rfl rfl rfl rfl rfl ?_
      refine TL.guardNo (d := 36) rfl rfl rfl rfl rfl ?_
      refine TL.pickF rfl rfl rfl rfl ?_
      refine TL.assign rfl rfl ?_
      refine TL.done ?_
      exact hK1  _ _ (by repeat (first | exact trivial | refine ⟨rfl, ?_⟩ | refine ⟨congrArg (fun b => some (Value.bool b)) (by first | exact (decide_eq_true (by grind)).symm | exact (decide_eq_false (by grind)).symm | exact decide_eq_decide.2 (by grind) | exact decide_eq_true (by grind) | exact decide_eq_false (by grind) | (exfalso; grind)), ?_⟩)) (by first | exact hc34.trans0 hc39 | exact hc34 | exact Ch.refl _ _)
  ·
    refine TC.ret ?_
    refine Ends.ret [2] rfl rfl ?_
    exact ⟨rfl, hc1.trans0 hH⟩

theorem fn25 (r : Tm.Timer) (w : World) : Rets Try.prog 25 #[.agg (cl r).toArray] w (fun v w' => v = .bool (decide (Tm.may r)) ∧ Ch [] w w') := by
  have hiff : Tm.may r ↔ (r.at_ ≥ 0 ∧ r.at_ ≤ 1099511627776 ∧ r.seq ≥ 0 ∧ r.seq ≤ 2147483647 ∧ r.cas ≥ 0 ∧ r.cas ≤ 2147483647 ∧ Tm.named r.stage ∧ Tm.named r.event) := Iff.rfl
  refine Rets.of (n := 41) (vs := [_]) Try.func25 rfl rfl rfl ?_
  refine TC.seq ?_
  refine TC.region ?_
  refine TL.box rfl rfl (fun w1 hb1 hc1 hz1 => ?_)
  refine TL.assign rfl rfl ?_
  refine TL.done ?_
  refine Thn.go ?_
  refine TC.cut0 ([(2, .bool (decide (Tm.may r)))]) (fun w2 => Ch [] w1 w2) (fun K1 hK1 => ?_) (fun w2 hH => ?_)
  ·
    refine TC.region ?_
    refine TL.fieldAddr fd27k0 rfl rfl ?_
    refine TL.load pl3 rfl (hb1.cell _) rfl ?_
    refine TL.geq rfl rfl rfl ?_
    refine TL.em (fun e5 => ?_) (fun e5 => ?_)
    ·
      refine TL.move rfl rfl ?_
      refine TL.guardYes (d := 6) rfl rfl rfl ?_
      refine TL.fieldAddr fd27k0 rfl rfl ?_
      refine TL.guardYes (d := 6) rfl rfl rfl ?_
      refine TL.load pl3 rfl (hb1.cell _) rfl ?_
      refine TL.guardYes (d := 6) rfl rfl rfl ?_
      refine TL.leq rfl rfl rfl ?_
      refine TL.em (fun e9 => ?_) (fun e9 => ?_)
      ·
        refine TL.pickT rfl rfl rfl rfl ?_
        refine TL.move rfl rfl ?_
        refine TL.guardYes (d := 11) rfl rfl rfl ?_
        refine TL.fieldAddr fd27k1 rfl rfl ?_
        refine TL.guardYes (d := 11) rfl rfl rfl ?_
        refine TL.load pl3 rfl (hb1.cell _) rfl ?_
        refine TL.guardYes (d := 11) rfl rfl rfl ?_
        refine TL.geq rfl rfl rfl ?_
        refine TL.em (fun e14 => ?_) (fun e14 => ?_)
        ·
          refine TL.pickT rfl rfl rfl rfl ?_
          refine TL.move rfl rfl ?_
          refine TL.guardYes (d := 16) rfl rfl rfl ?_
          refine TL.fieldAddr fd27k1 rfl rfl ?_
          refine TL.guardYes (d := 16) rfl rfl rfl ?_
          refine TL.load pl3 rfl (hb1.cell _) rfl ?_
          refine TL.guardYes (d := 16) rfl rfl rfl ?_
          refine TL.leq rfl rfl rfl ?_
          refine TL.em (fun e19 => ?_) (fun e19 => ?_)
          ·
            refine TL.pickT rfl rfl rfl rfl ?_
            refine TL.move rfl rfl ?_
            refine TL.guardYes (d := 21) rfl rfl rfl ?_
            refine TL.fieldAddr fd27k2 rfl rfl ?_
            refine TL.guardYes (d := 21) rfl rfl rfl ?_
            refine TL.load pl3 rfl (hb1.cell _) rfl ?_
            refine TL.guardYes (d := 21) rfl rfl rfl ?_
            refine TL.geq rfl rfl rfl ?_
            refine TL.em (fun e24 => ?_) (fun e24 => ?_)
            ·
              refine TL.pickT rfl rfl rfl rfl ?_
              refine TL.move rfl rfl ?_
              refine TL.guardYes (d := 26) rfl rfl rfl ?_
              refine TL.fieldAddr fd27k2 rfl rfl ?_
              refine TL.guardYes (d := 26) rfl rfl rfl ?_
              refine TL.load pl3 rfl (hb1.cell _) rfl ?_
              refine TL.guardYes (d := 26) rfl rfl rfl ?_
              refine TL.leq rfl rfl rfl ?_
              refine TL.em (fun e29 => ?_) (fun e29 => ?_)
              ·
                refine TL.pickT rfl rfl rfl rfl ?_
                refine TL.move rfl rfl ?_
                refine TL.guardYes (d := 31) rfl rfl rfl ?_
                refine TL.fieldAddr fd27k3 rfl rfl ?_
                refine TL.guardYes (d := 31) rfl rfl rfl ?_
                refine TL.load pl9 rfl (hb1.cell _) rfl ?_
                refine TL.guardYes (d := 31) rfl rfl rfl ?_
                refine TL.call can41 rfl rfl (fn41 r.stage _) (fun v34 w34 hr34 => ?_)
                obtain ⟨rfl, rfl⟩ := hr34
                refine TL.em (fun e34 => ?_) (fun e34 => ?_)
                ·
                  refine TL.pickT rfl rfl rfl rfl ?_
                  refine TL.move rfl rfl ?_
                  refine TL.guardYes (d := 36) rfl rfl rfl ?_
                  refine TL.fieldAddr fd27k4 rfl rfl ?_
                  refine TL.guardYes (d := 36) rfl rfl rfl ?_
                  refine TL.load pl9 rfl (hb1.cell _) rfl ?_
                  refine TL.guardYes (d := 36) rfl rfl rfl ?_
                  refine TL.call can41 rfl rfl (fn41 r.event _) (fun v39 w39 hr39 => ?_)
                  obtain ⟨rfl, rfl⟩ := hr39
                  refine TL.pickT rfl rfl rfl rfl ?_
                  refine TL.assign rfl rfl ?_
                  refine TL.done ?_
                  exact hK1  _ _ (by repeat (first | exact trivial | refine ⟨rfl, ?_⟩ | refine ⟨congrArg (fun b => some (Value.bool b)) (by first | exact (decide_eq_true (by grind)).symm | exact (decide_eq_false (by grind)).symm | exact decide_eq_decide.2 (by grind) | exact decide_eq_true (by grind) | exact decide_eq_false (by grind) | (exfalso; grind)), ?_⟩)) (Ch.refl _ _)
                ·
                  refine TL.pickT rfl rfl rfl rfl ?_
                  refine TL.move rfl rfl ?_
                  refine TL.guardNo (d := 36) rfl rfl rfl rfl rfl ?_
                  refine TL.guardNo (d := 36) rfl rfl rfl rfl rfl ?_
                  refine TL.guardNo (d := 36) rfl rfl rfl rfl rfl ?_
                  refine TL.pickF rfl rfl rfl rfl ?_
                  refine TL.assign rfl rfl ?_
                  refine TL.done ?_
                  exact hK1  _ _ (by repeat (first | exact trivial | refine ⟨rfl, ?_⟩ | refine ⟨congrArg (fun b => some (Value.bool b)) (by first | exact (decide_eq_true (by grind)).symm | exact (decide_eq_false (by grind)).symm | exact decide_eq_decide.2 (by grind) | exact decide_eq_true (by grind) | exact decide_eq_false (by grind) | (exfalso; grind)), ?_⟩)) (Ch.refl _ _)
              ·
                refine TL.pickT rfl rfl rfl rfl ?_
                refine TL.move rfl rfl ?_
                refine TL.guardNo (d := 31) rfl rfl rfl rfl rfl ?_
                refine TL.guardNo (d := 31) rfl rfl rfl rfl rfl ?_
                refine TL.guardNo (d := 31) rfl rfl rfl rfl rfl ?_
                refine TL.pickF rfl rfl rfl rfl ?_
                refine TL.move rfl rfl ?_
                refine TL.guardNo (d := 36) rfl rfl rfl rfl rfl ?_
                refine TL.guardNo (d := 36) rfl rfl rfl rfl rfl ?_
                refine TL.guardNo (d := 36) rfl rfl rfl rfl rfl ?_
                refine TL.pickF rfl rfl rfl rfl ?_
                refine TL.assign rfl rfl ?_
                refine TL.done ?_
                exact hK1  _ _ (by repeat (first | exact trivial | refine ⟨rfl, ?_⟩ | refine ⟨congrArg (fun b => some (Value.bool b)) (by first | exact (decide_eq_true (by grind)).symm | exact (decide_eq_false (by grind)).symm | exact decide_eq_decide.2 (by grind) | exact decide_eq_true (by grind) | exact decide_eq_false (by grind) | (exfalso; grind)), ?_⟩)) (Ch.refl _ _)
            ·
              refine TL.pickT rfl rfl rfl rfl ?_
              refine TL.move rfl rfl ?_
              refine TL.guardNo (d := 26) rfl rfl rfl rfl rfl ?_
              refine TL.guardNo (d := 26) rfl rfl rfl rfl rfl ?_
              refine TL.guardNo (d := 26) rfl rfl rfl rfl rfl ?_
              refine TL.pickF rfl rfl rfl rfl ?_
              refine TL.move rfl rfl ?_
              refine TL.guardNo (d := 31) rfl rfl rfl rfl rfl ?_
              refine TL.guardNo (d := 31) rfl rfl rfl rfl rfl ?_
              refine TL.guardNo (d := 31) rfl rfl rfl rfl rfl ?_
              refine TL.pickF rfl rfl rfl rfl ?_
              refine TL.move rfl rfl ?_
              refine TL.guardNo (d := 36) rfl rfl rfl rfl rfl ?_
              refine TL.guardNo (d := 36) rfl rfl rfl rfl rfl ?_
              refine TL.guardNo (d := 36) rfl rfl rfl rfl rfl ?_
              refine TL.pickF rfl rfl rfl rfl ?_
              refine TL.assign rfl rfl ?_
              refine TL.done ?_
              exact hK1  _ _ (by repeat (first | exact trivial | refine ⟨rfl, ?_⟩ | refine ⟨congrArg (fun b => some (Value.bool b)) (by first | exact (decide_eq_true (by grind)).symm | exact (decide_eq_false (by grind)).symm | exact decide_eq_decide.2 (by grind) | exact decide_eq_true (by grind) | exact decide_eq_false (by grind) | (exfalso; grind)), ?_⟩)) (Ch.refl _ _)
          ·
            refine TL.pickT rfl rfl rfl rfl ?_
            refine TL.move rfl rfl ?_
            refine TL.guardNo (d := 21) rfl rfl rfl rfl rfl ?_
            refine TL.guardNo (d := 21) rfl rfl rfl rfl rfl ?_
            refine TL.guardNo (d := 21) rfl rfl rfl rfl rfl ?_
            refine TL.pickF rfl rfl rfl rfl ?_
            refine TL.move rfl rfl ?_
            refine TL.guardNo (d := 26) rfl rfl rfl rfl rfl ?_
            refine TL.guardNo (d := 26) rfl rfl rfl rfl rfl ?_
            refine TL.guardNo (d := 26) rfl rfl rfl rfl rfl ?_
            refine TL.pickF rfl rfl rfl rfl ?_
            refine TL.move rfl rfl ?_
            refine TL.guardNo (d := 31) rfl rfl rfl rfl rfl ?_
            refine TL.guardNo (d := 31) rfl rfl rfl rfl rfl ?_
            refine TL.guardNo (d := 31) rfl rfl rfl rfl rfl ?_
            refine TL.pickF rfl rfl rfl rfl ?_
            refine TL.move rfl rfl ?_
            refine TL.guardNo (d := 36) rfl rfl rfl rfl rfl ?_
            refine TL.guardNo (d := 36) rfl rfl rfl rfl rfl ?_
            refine TL.guardNo (d := 36) rfl rfl rfl rfl rfl ?_
            refine TL.pickF rfl rfl rfl rfl ?_
            refine TL.assign rfl rfl ?_
            refine TL.done ?_
            exact hK1  _ _ (by repeat (first | exact trivial | refine ⟨rfl, ?_⟩ | refine ⟨congrArg (fun b => some (Value.bool b)) (by first | exact (decide_eq_true (by grind)).symm | exact (decide_eq_false (by grind)).symm | exact decide_eq_decide.2 (by grind) | exact decide_eq_true (by grind) | exact decide_eq_false (by grind) | (exfalso; grind)), ?_⟩)) (Ch.refl _ _)
        ·
          refine TL.pickT rfl rfl rfl rfl ?_
          refine TL.move rfl rfl ?_
          refine TL.guardNo (d := 16) rfl rfl rfl rfl rfl ?_
          refine TL.guardNo (d := 16) rfl rfl rfl rfl rfl ?_
          refine TL.guardNo (d := 16) rfl rfl rfl rfl rfl ?_
          refine TL.pickF rfl rfl rfl rfl ?_
          refine TL.move rfl rfl ?_
          refine TL.guardNo (d := 21) rfl rfl rfl rfl rfl ?_
          refine TL.guardNo (d := 21) rfl rfl rfl rfl rfl ?_
          refine TL.guardNo (d := 21) rfl rfl rfl rfl rfl ?_
          refine TL.pickF rfl rfl rfl rfl ?_
          refine TL.move rfl rfl ?_
          refine TL.guardNo (d := 26) rfl rfl rfl rfl rfl ?_
          refine TL.guardNo (d := 26) rfl rfl rfl rfl rfl ?_
          refine TL.guardNo (d := 26) rfl rfl rfl rfl rfl ?_
          refine TL.pickF rfl rfl rfl rfl ?_
          refine TL.move rfl rfl ?_
          refine TL.guardNo (d := 31) rfl rfl rfl rfl rfl ?_
          refine TL.guardNo (d := 31) rfl rfl rfl rfl rfl ?_
          refine TL.guardNo (d := 31) rfl rfl rfl rfl rfl ?_
          refine TL.pickF rfl rfl rfl rfl ?_
          refine TL.move rfl rfl ?_
          refine TL.guardNo (d := 36) rfl rfl rfl rfl rfl ?_
          refine TL.guardNo (d := 36) rfl rfl rfl rfl rfl ?_
          refine TL.guardNo (d := 36) rfl rfl rfl rfl rfl ?_
          refine TL.pickF rfl rfl rfl rfl ?_
          refine TL.assign rfl rfl ?_
          refine TL.done ?_
          exact hK1  _ _ (by repeat (first | exact trivial | refine ⟨rfl, ?_⟩ | refine ⟨congrArg (fun b => some (Value.bool b)) (by first | exact (decide_eq_true (by grind)).symm | exact (decide_eq_false (by grind)).symm | exact decide_eq_decide.2 (by grind) | exact decide_eq_true (by grind) | exact decide_eq_false (by grind) | (exfalso; grind)), ?_⟩)) (Ch.refl _ _)
      ·
        refine TL.pickT rfl rfl rfl rfl ?_
        refine TL.move rfl rfl ?_
        refine TL.guardNo (d := 11) rfl rfl rfl rfl rfl ?_
        refine TL.guardNo (d := 11) rfl rfl rfl rfl rfl ?_
        refine TL.guardNo (d := 11) rfl rfl rfl rfl rfl ?_
        refine TL.pickF rfl rfl rfl rfl ?_
        refine TL.move rfl rfl ?_
        refine TL.guardNo (d := 16) rfl rfl rfl rfl rfl ?_
        refine TL.guardNo (d := 16) rfl rfl rfl rfl rfl ?_
        refine TL.guardNo (d := 16) rfl rfl rfl rfl rfl ?_
        refine TL.pickF rfl rfl rfl rfl ?_
        refine TL.move rfl rfl ?_
        refine TL.guardNo (d := 21) rfl rfl rfl rfl rfl ?_
        refine TL.guardNo (d := 21) rfl rfl rfl rfl rfl ?_
        refine TL.guardNo (d := 21) rfl rfl rfl rfl rfl ?_
        refine TL.pickF rfl rfl rfl rfl ?_
        refine TL.move rfl rfl ?_
        refine TL.guardNo (d := 26) rfl rfl rfl rfl rfl ?_
        refine TL.guardNo (d := 26) rfl rfl rfl rfl rfl ?_
        refine TL.guardNo (d := 26) rfl rfl rfl rfl rfl ?_
        refine TL.pickF rfl rfl rfl rfl ?_
        refine TL.move rfl rfl ?_
        refine TL.guardNo (d := 31) rfl rfl rfl rfl rfl ?_
        refine TL.guardNo (d := 31) rfl rfl rfl rfl rfl ?_
        refine TL.guardNo (d := 31) rfl rfl rfl rfl rfl ?_
        refine TL.pickF rfl rfl rfl rfl ?_
        refine TL.move rfl rfl ?_
        refine TL.guardNo (d := 36) rfl rfl rfl rfl rfl ?_
        refine TL.guardNo (d := 36) rfl rfl rfl rfl rfl ?_
        refine TL.guardNo (d := 36) rfl rfl rfl rfl rfl ?_
        refine TL.pickF rfl rfl rfl rfl ?_
        refine TL.assign rfl rfl ?_
        refine TL.done ?_
        exact hK1  _ _ (by repeat (first | exact trivial | refine ⟨rfl, ?_⟩ | refine ⟨congrArg (fun b => some (Value.bool b)) (by first | exact (decide_eq_true (by grind)).symm | exact (decide_eq_false (by grind)).symm | exact decide_eq_decide.2 (by grind) | exact decide_eq_true (by grind) | exact decide_eq_false (by grind) | (exfalso; grind)), ?_⟩)) (Ch.refl _ _)
    ·
      refine TL.move rfl rfl ?_
      refine TL.guardNo (d := 6) rfl rfl rfl rfl rfl ?_
      refine TL.guardNo (d := 6) rfl rfl rfl rfl rfl ?_
      refine TL.guardNo (d := 6) rfl rfl rfl rfl rfl ?_
      refine TL.pickF rfl rfl rfl rfl ?_
      refine TL.move rfl rfl ?_
      refine TL.guardNo (d := 11) rfl rfl rfl rfl rfl ?_
      refine TL.guardNo (d := 11) rfl rfl rfl rfl rfl ?_
      refine TL.guardNo (d := 11) rfl rfl rfl rfl rfl ?_
      refine TL.pickF rfl rfl rfl rfl ?_
      refine TL.move rfl rfl ?_
      refine TL.guardNo (d := 16) rfl rfl rfl rfl rfl ?_
      refine TL.guardNo (d := 16) rfl rfl rfl rfl rfl ?_
      refine TL.guardNo (d := 16) rfl rfl rfl rfl rfl ?_
      refine TL.pickF rfl rfl rfl rfl ?_
      refine TL.move rfl rfl ?_
      refine TL.guardNo (d := 21) rfl rfl rfl rfl rfl ?_
      refine TL.guardNo (d := 21) rfl rfl rfl rfl rfl ?_
      refine TL.guardNo (d := 21) rfl rfl rfl rfl rfl ?_
      refine TL.pickF rfl rfl rfl rfl ?_
      refine TL.move rfl rfl ?_
      refine TL.guardNo (d := 26) rfl rfl rfl rfl rfl ?_
      refine TL.guardNo (d := 26) rfl rfl rfl rfl rfl ?_
      refine TL.guardNo (d := 26) rfl rfl rfl rfl rfl ?_
      refine TL.pickF rfl rfl rfl rfl ?_
      refine TL.move rfl rfl ?_
      refine TL.guardNo (d := 31) rfl rfl rfl rfl rfl ?_
      refine TL.guardNo (d := 31) rfl rfl rfl rfl rfl ?_
      refine TL.guardNo (d := 31) rfl rfl rfl rfl rfl ?_
      refine TL.pickF rfl rfl rfl rfl ?_
      refine TL.move rfl rfl ?_
      refine TL.guardNo (d := 36) rfl rfl rfl rfl rfl ?_
      refine TL.guardNo (d := 36) rfl rfl rfl rfl rfl ?_
      refine TL.guardNo (d := 36) rfl rfl rfl rfl rfl ?_
      refine TL.pickF rfl rfl rfl rfl ?_
      refine TL.assign rfl rfl ?_
      refine TL.done ?_
      exact hK1  _ _ (by repeat (first | exact trivial | refine ⟨rfl, ?_⟩ | refine ⟨congrArg (fun b => some (Value.bool b)) (by first | exact (decide_eq_true (by grind)).symm | exact (decide_eq_false (by grind)).symm | exact decide_eq_decide.2 (by grind) | exact decide_eq_true (by grind) | exact decide_eq_false (by grind) | (exfalso; grind)), ?_⟩)) (Ch.refl _ _)
  ·
    refine TC.ret ?_
    refine Ends.ret [2] rfl rfl ?_
    exact ⟨rfl, hc1.trans0 hH⟩

theorem fn34 (a b : Tm.Timer) (w : World) : Rets Try.prog 34 #[.agg (cl a).toArray, .agg (cl b).toArray] w (fun v w' => v = .bool (decide (Tm.ahead a b)) ∧ Ch [] w w') := by
  have hiff : Tm.ahead a b ↔ a.at_ < b.at_ ∨ (a.at_ = b.at_ ∧ a.seq < b.seq) := Iff.rfl
  refine Rets.of (n := 24) (vs := [_, _]) Try.func34 rfl rfl rfl ?_
  refine TC.seq ?_
  refine TC.region ?_
  refine TL.box rfl rfl (fun w2 hb2 hc2 hz2 => ?_)
  refine TL.box rfl rfl (fun w3 hb3 hc3 hz3 => ?_)
  refine TL.assign rfl rfl ?_
  refine TL.done ?_
  refine Thn.go ?_
  refine TC.cut0 ([(4, .bool (decide (Tm.ahead a b)))]) (fun w4 => w4 = w3) (fun K1 hK1 => ?_) (fun w4 hH => ?_)
  ·
    refine TC.region ?_
    refine TL.fieldAddr fd27k0 rfl rfl ?_
    refine TL.load pl3 rfl ((hb2.ch0 hc3).cell _) rfl ?_
    refine TL.fieldAddr fd27k0 rfl rfl ?_
    refine TL.load pl3 rfl (hb3.cell _) rfl ?_
    refine TL.lss rfl rfl rfl ?_
    refine TL.em (fun e9 => ?_) (fun e9 => ?_)
    ·
      refine TL.move rfl rfl ?_
      refine TL.guardNo (d := 10) rfl rfl rfl rfl rfl ?_
      refine TL.guardNo (d := 10) rfl rfl rfl rfl rfl ?_
      refine TL.guardNo (d := 10) rfl rfl rfl rfl rfl ?_
      refine TL.guardNo (d := 10) rfl rfl rfl rfl rfl ?_
      refine TL.guardNo (d := 10) rfl rfl rfl rfl rfl ?_
      refine TL.guardNo (d := 10) rfl rfl rfl rfl rfl ?_
      refine TL.guardUndef (d := 16) rfl rfl rfl rfl ?_
      refine TL.guardUndef (d := 16) rfl rfl rfl rfl ?_
      refine TL.guardUndef (d := 16) rfl rfl rfl rfl ?_
      refine TL.guardUndef (d := 16) rfl rfl rfl rfl ?_
      refine TL.guardUndef (d := 16) rfl rfl rfl rfl ?_
      refine TL.guardNo (d := 10) rfl rfl rfl rfl rfl ?_
      refine TL.pickT rfl rfl rfl rfl ?_
      refine TL.assign rfl rfl ?_
      refine TL.done ?_
      exact hK1  _ _ (by repeat (first | exact trivial | refine ⟨rfl, ?_⟩ | refine ⟨congrArg (fun b => some (Value.bool b)) (by first | exact (decide_eq_true (by grind)).symm | exact (decide_eq_false (by grind)).symm | exact decide_eq_decide.2 (by grind) | exact decide_eq_true (by grind) | exact decide_eq_false (by grind) | (exfalso; grind)), ?_⟩)) (rfl)
    ·
      refine TL.move rfl rfl ?_
      refine TL.guardYes (d := 10) rfl rfl rfl ?_
      refine TL.fieldAddr fd27k0 rfl rfl ?_
      refine TL.guardYes (d := 10) rfl rfl rfl ?_
      refine TL.load pl3 rfl ((hb2.ch0 hc3).cell _) rfl ?_
      refine TL.guardYes (d := 10) rfl rfl rfl ?_
      refine TL.fieldAddr fd27k0 rfl rfl ?_
      refine TL.guardYes (d := 10) rfl rfl rfl ?_
      refine TL.load pl3 rfl (hb3.cell _) rfl ?_
      refine TL.guardYes (d := 10) rfl rfl rfl ?_
      refine TL.eql rfl rfl rfl ?_
      refine TL.em (fun e15 => ?_) (fun e15 => ?_)
      ·
        refine TL.guardYes (d := 10) rfl rfl rfl ?_
        refine TL.move rfl rfl ?_
        refine TL.guardYes (d := 16) rfl rfl rfl ?_
        refine TL.fieldAddr fd27k1 rfl rfl ?_
        refine TL.guardYes (d := 16) rfl rfl rfl ?_
        refine TL.load pl3 rfl ((hb2.ch0 hc3).cell _) rfl ?_
        refine TL.guardYes (d := 16) rfl rfl rfl ?_
        refine TL.fieldAddr fd27k1 rfl rfl ?_
        refine TL.guardYes (d := 16) rfl rfl rfl ?_
        refine TL.load pl3 rfl (hb3.cell _) rfl ?_
        refine TL.guardYes (d := 16) rfl rfl rfl ?_
        refine TL.lss rfl rfl rfl ?_
        refine TL.guardYes (d := 10) rfl rfl rfl ?_
        refine TL.pickT rfl rfl rfl rfl ?_
        refine TL.pickF rfl rfl rfl rfl ?_
        refine TL.assign rfl rfl ?_
        refine TL.done ?_
        exact hK1  _ _ (by repeat (first | exact trivial | refine ⟨rfl, ?_⟩ | refine ⟨congrArg (fun b => some (Value.bool b)) (by first | exact (decide_eq_true (by grind)).symm | exact (decide_eq_false (by grind)).symm | exact decide_eq_decide.2 (by grind) | exact decide_eq_true (by grind) | exact decide_eq_false (by grind) | (exfalso; grind)), ?_⟩)) (rfl)
      ·
        refine TL.guardYes (d := 10) rfl rfl rfl ?_
        refine TL.move rfl rfl ?_
        refine TL.guardNo (d := 16) rfl rfl rfl rfl rfl ?_
        refine TL.guardNo (d := 16) rfl rfl rfl rfl rfl ?_
        refine TL.guardNo (d := 16) rfl rfl rfl rfl rfl ?_
        refine TL.guardNo (d := 16) rfl rfl rfl rfl rfl ?_
        refine TL.guardNo (d := 16) rfl rfl rfl rfl rfl ?_
        refine TL.guardYes (d := 10) rfl rfl rfl ?_
        refine TL.pickF rfl rfl rfl rfl ?_
        refine TL.pickF rfl rfl rfl rfl ?_
        refine TL.assign rfl rfl ?_
        refine TL.done ?_
        exact hK1  _ _ (by repeat (first | exact trivial | refine ⟨rfl, ?_⟩ | refine ⟨congrArg (fun b => some (Value.bool b)) (by first | exact (decide_eq_true (by grind)).symm | exact (decide_eq_false (by grind)).symm | exact decide_eq_decide.2 (by grind) | exact decide_eq_true (by grind) | exact decide_eq_false (by grind) | (exfalso; grind)), ?_⟩)) (rfl)
  ·
    refine TC.ret ?_
    refine Ends.ret [4] rfl rfl ?_
    exact ⟨rfl, by subst hH; exact hc2.trans0 hc3⟩

theorem fn39 (a b : Tm.Timer) (w : World) : Rets Try.prog 39 #[.agg (cl a).toArray, .agg (cl b).toArray] w (fun v w' => v = .bool (decide (Tm.ahead a b)) ∧ Ch [] w w') := by
  have hiff : Tm.ahead a b ↔ a.at_ < b.at_ ∨ (a.at_ = b.at_ ∧ a.seq < b.seq) := Iff.rfl
  refine Rets.of (n := 24) (vs := [_, _]) Try.func39 rfl rfl rfl ?_
  refine TC.seq ?_
  refine TC.region ?_
  refine TL.box rfl rfl (fun w2 hb2 hc2 hz2 => ?_)
  refine TL.box rfl rfl (fun w3 hb3 hc3 hz3 => ?_)
  refine TL.assign rfl rfl ?_
  refine TL.done ?_
  refine Thn.go ?_
  refine TC.cut0 ([(4, .bool (decide (Tm.ahead a b)))]) (fun w4 => w4 = w3) (fun K1 hK1 => ?_) (fun w4 hH => ?_)
  ·
    refine TC.region ?_
    refine TL.fieldAddr fd27k0 rfl rfl ?_
    refine TL.load pl3 rfl ((hb2.ch0 hc3).cell _) rfl ?_
    refine TL.fieldAddr fd27k0 rfl rfl ?_
    refine TL.load pl3 rfl (hb3.cell _) rfl ?_
    refine TL.lss rfl rfl rfl ?_
    refine TL.em (fun e9 => ?_) (fun e9 => ?_)
    ·
      refine TL.move rfl rfl ?_
      refine TL.guardNo (d := 10) rfl rfl rfl rfl rfl ?_
      refine TL.guardNo (d := 10) rfl rfl rfl rfl rfl ?_
      refine TL.guardNo (d := 10) rfl rfl rfl rfl rfl ?_
      refine TL.guardNo (d := 10) rfl rfl rfl rfl rfl ?_
      refine TL.guardNo (d := 10) rfl rfl rfl rfl rfl ?_
      refine TL.guardNo (d := 10) rfl rfl rfl rfl rfl ?_
      refine TL.guardUndef (d := 16) rfl rfl rfl rfl ?_
      refine TL.guardUndef (d := 16) rfl rfl rfl rfl ?_
      refine TL.guardUndef (d := 16) rfl rfl rfl rfl ?_
      refine TL.guardUndef (d := 16) rfl rfl rfl rfl ?_
      refine TL.guardUndef (d := 16) rfl rfl rfl rfl ?_
      refine TL.guardNo (d := 10) rfl rfl rfl rfl rfl ?_
      refine TL.pickT rfl rfl rfl rfl ?_
      refine TL.assign rfl rfl ?_
      refine TL.done ?_
      exact hK1  _ _ (by repeat (first | exact trivial | refine ⟨rfl, ?_⟩ | refine ⟨congrArg (fun b => some (Value.bool b)) (by first | exact (decide_eq_true (by grind)).symm | exact (decide_eq_false (by grind)).symm | exact decide_eq_decide.2 (by grind) | exact decide_eq_true (by grind) | exact decide_eq_false (by grind) | (exfalso; grind)), ?_⟩)) (rfl)
    ·
      refine TL.move rfl rfl ?_
      refine TL.guardYes (d := 10) rfl rfl rfl ?_
      refine TL.fieldAddr fd27k0 rfl rfl ?_
      refine TL.guardYes (d := 10) rfl rfl rfl ?_
      refine TL.load pl3 rfl ((hb2.ch0 hc3).cell _) rfl ?_
      refine TL.guardYes (d := 10) rfl rfl rfl ?_
      refine TL.fieldAddr fd27k0 rfl rfl ?_
      refine TL.guardYes (d := 10) rfl rfl rfl ?_
      refine TL.load pl3 rfl (hb3.cell _) rfl ?_
      refine TL.guardYes (d := 10) rfl rfl rfl ?_
      refine TL.eql rfl rfl rfl ?_
      refine TL.em (fun e15 => ?_) (fun e15 => ?_)
      ·
        refine TL.guardYes (d := 10) rfl rfl rfl ?_
        refine TL.move rfl rfl ?_
        refine TL.guardYes (d := 16) rfl rfl rfl ?_
        refine TL.fieldAddr fd27k1 rfl rfl ?_
        refine TL.guardYes (d := 16) rfl rfl rfl ?_
        refine TL.load pl3 rfl ((hb2.ch0 hc3).cell _) rfl ?_
        refine TL.guardYes (d := 16) rfl rfl rfl ?_
        refine TL.fieldAddr fd27k1 rfl rfl ?_
        refine TL.guardYes (d := 16) rfl rfl rfl ?_
        refine TL.load pl3 rfl (hb3.cell _) rfl ?_
        refine TL.guardYes (d := 16) rfl rfl rfl ?_
        refine TL.lss rfl rfl rfl ?_
        refine TL.guardYes (d := 10) rfl rfl rfl ?_
        refine TL.pickT rfl rfl rfl rfl ?_
        refine TL.pickF rfl rfl rfl rfl ?_
        refine TL.assign rfl rfl ?_
        refine TL.done ?_
        exact hK1  _ _ (by repeat (first | exact trivial | refine ⟨rfl, ?_⟩ | refine ⟨congrArg (fun b => some (Value.bool b)) (by first | exact (decide_eq_true (by grind)).symm | exact (decide_eq_false (by grind)).symm | exact decide_eq_decide.2 (by grind) | exact decide_eq_true (by grind) | exact decide_eq_false (by grind) | (exfalso; grind)), ?_⟩)) (rfl)
      ·
        refine TL.guardYes (d := 10) rfl rfl rfl ?_
        refine TL.move rfl rfl ?_
        refine TL.guardNo (d := 16) rfl rfl rfl rfl rfl ?_
        refine TL.guardNo (d := 16) rfl rfl rfl rfl rfl ?_
        refine TL.guardNo (d := 16) rfl rfl rfl rfl rfl ?_
        refine TL.guardNo (d := 16) rfl rfl rfl rfl rfl ?_
        refine TL.guardNo (d := 16) rfl rfl rfl rfl rfl ?_
        refine TL.guardYes (d := 10) rfl rfl rfl ?_
        refine TL.pickF rfl rfl rfl rfl ?_
        refine TL.pickF rfl rfl rfl rfl ?_
        refine TL.assign rfl rfl ?_
        refine TL.done ?_
        exact hK1  _ _ (by repeat (first | exact trivial | refine ⟨rfl, ?_⟩ | refine ⟨congrArg (fun b => some (Value.bool b)) (by first | exact (decide_eq_true (by grind)).symm | exact (decide_eq_false (by grind)).symm | exact decide_eq_decide.2 (by grind) | exact decide_eq_true (by grind) | exact decide_eq_false (by grind) | (exfalso; grind)), ?_⟩)) (rfl)
  ·
    refine TC.ret ?_
    refine Ends.ret [4] rfl rfl ?_
    exact ⟨rfl, by subst hH; exact hc2.trans0 hc3⟩

theorem fn22 (a b : Value) (l m : List Tm.Timer) (w : World) (ha : Rd w a 5 l.length (l.flatMap cl)) (hb : Rd w b 5 m.length (m.flatMap cl)) : Rets Try.prog 22 #[a, b] w (fun v w' => v = .bool (decide (l = m)) ∧ Ch [] w w') := by
  obtain ⟨ad, c, rfl, _⟩ := ha.shape
  obtain ⟨bd, d, rfl, _⟩ := hb.shape
  have hmx : l.length ≤ 9223372036854775807 := ha.nlt
  refine Rets.of (n := 26) (vs := [_, _]) Try.func22 rfl rfl rfl ?_
  refine TC.seq ?_
  refine TC.region ?_
  refine TL.assign rfl rfl ?_
  refine TL.done ?_
  refine Thn.go ?_
  refine TC.seq ?_
  refine TC.seq ?_
  refine TC.region ?_
  refine TL.move rfl rfl ?_
  refine TL.lenSlice Try.underlying25 rfl rfl ?_
  refine TL.move rfl rfl ?_
  refine TL.lenSlice Try.underlying25 rfl rfl ?_
  refine TL.neq rfl rfl rfl ?_
  refine TL.done ?_
  refine Thn.go ?_
  refine TC.condP rfl (fun h1 => ?_) (fun h1 => ?_)
  ·
    refine TC.seq ?_
    refine TC.region ?_
    refine TL.assign rfl rfl ?_
    refine TL.done ?_
    refine Thn.go ?_
    refine TC.ret ?_
    refine Thn.ret ?_
    refine Ends.ret [4] rfl rfl ?_
    exact ⟨congrArg Value.bool (decide_eq_false (by rintro rfl; exact absurd rfl (by assumption))).symm, Ch.refl _ _⟩
  ·
    have hlm : l.length = m.length := by omega
    refine TC.skip ?_
    refine Thn.go ?_
    refine TC.seq ?_
    refine TC.seq ?_
    refine TC.region ?_
    refine TL.assign rfl rfl ?_
    refine TL.done ?_
    refine Thn.go ?_
    refine TC.block ?_
    refine TC.loop1 (fun (i : Nat) => [(0, .slice ad l.length c), (1, .slice bd m.length d), (5, .int .i64 (i : Int))]) (fun i w' => i ≤ l.length ∧ (∀ j, j < i → Tm.rec l j = Tm.rec m j) ∧ Ch [] w w') (fun i => l.length - i) 0 (by repeat (first | exact trivial | refine ⟨rfl, ?_⟩)) (⟨by omega, by intro j hj; omega, Ch.refl _ _⟩) (fun i w' hH => ?_)
    obtain ⟨hi, hg, hch⟩ := hH
    refine TC.seq ?_
    refine TC.seq ?_
    refine TC.region ?_
    refine TL.move rfl rfl ?_
    refine TL.move rfl rfl ?_
    refine TL.lenSlice Try.underlying25 rfl rfl ?_
    refine TL.lss rfl rfl rfl ?_
    refine TL.done ?_
    refine Thn.go ?_
    refine TC.condP rfl (fun h2 => ?_) (fun h2 => ?_)
    ·
      have hil : i < l.length := by omega
      obtain ⟨b1, o1, rfl, _⟩ := recAt ha hil
      obtain ⟨b2, o2, rfl, _⟩ := recAt hb (i := i) (by omega)
      have hce : ∀ w2, Ch [] w w2 → ∀ j, j < 5 → w2.cell? ⟨b1, o1 + i * 5 + j, none⟩ = (cl (Tm.rec l i))[j]? := fun w2 h2 => by obtain ⟨b', o', e, hh⟩ := recAt (ha.ch0 h2) hil; cases e; exact hh
      have hce2 : ∀ w2, Ch [] w w2 → ∀ j, j < 5 → w2.cell? ⟨b2, o2 + i * 5 + j, none⟩ = (cl (Tm.rec m i))[j]? := fun w2 h2 => by obtain ⟨b', o', e, hh⟩ := recAt (i := i) (hb.ch0 h2) (by omega); cases e; exact hh
      refine TC.skip ?_
      refine Thn.go ?_
      refine TC.seq ?_
      refine TC.block ?_
      refine TC.seq ?_
      refine TC.regionQ (fun w4 => Ch [] w w4) mixed0 (by kernel_rfl) (hch.trans0 (Ch.drew [] _)) ?_
      refine TQ.via rfl rfl rfl rfl (fun w2 hw2 => TL.move rfl rfl (TL.done ⟨rfl, rfl⟩)) ?_
      refine TQ.via rfl rfl rfl rfl (fun w2 hw2 => TL.move rfl rfl (TL.done ⟨rfl, rfl⟩)) ?_
      refine TQ.via rfl rfl rfl rfl (fun w2 hw2 => TL.indexAddr (i) sl25 rfl rfl (by first | rfl | omega) (by omega) rfl (TL.done ⟨rfl, rfl⟩)) ?_
      refine TQ.via rfl rfl rfl rfl (fun w2 hw2 => TL.loadAgg (cl (Tm.rec l i)) ag27 rfl rfl (fun j hj => hce _ hw2 j hj) rfl (TL.done ⟨rfl, rfl⟩)) ?_
      refine TQ.via rfl rfl rfl rfl (fun w2 hw2 => TL.move rfl rfl (TL.done ⟨rfl, rfl⟩)) ?_
      refine TQ.via rfl rfl rfl rfl (fun w2 hw2 => TL.move rfl rfl (TL.done ⟨rfl, rfl⟩)) ?_
      refine TQ.via rfl rfl rfl rfl (fun w2 hw2 => TL.indexAddr (i) sl25 rfl rfl (by first | rfl | omega) (by omega) rfl (TL.done ⟨rfl, rfl⟩)) ?_
      refine TQ.via rfl rfl rfl rfl (fun w2 hw2 => TL.loadAgg (cl (Tm.rec m i)) ag27 rfl rfl (fun j hj => hce2 _ hw2 j hj) rfl (TL.done ⟨rfl, rfl⟩)) ?_
      refine TQ.via rfl rfl rfl rfl (fun w2 hw2 => TL.neqAgg gd27 (eqTimer _ _ _) rfl rfl rfl (TL.done ⟨rfl, rfl⟩)) ?_
      refine TQ.done (fun w2 hw2 => ?_)
      refine Thn.go ?_
      refine TC.condP rfl (fun h3 => ?_) (fun h3 => ?_)
      ·
        refine TC.seq ?_
        refine TC.region ?_
        refine TL.assign rfl rfl ?_
        refine TL.done ?_
        refine Thn.go ?_
        refine TC.ret ?_
        refine Blk.ret ?_
        refine Thn.ret ?_
        refine Lp.ret ?_
        refine Blk.ret ?_
        refine Thn.ret ?_
        refine Ends.ret [4] rfl rfl ?_
        exact ⟨congrArg Value.bool (decide_eq_false (by rintro rfl; exact absurd rfl (by assumption))).symm, hw2⟩
      ·
        refine TC.skip ?_
        refine Blk.go ?_
        refine Thn.go ?_
        refine TC.region ?_
        refine TL.move rfl rfl ?_
        refine TL.add_i64 rfl rfl (by omega) (by omega) rfl ?_
        refine TL.assign rfl rfl ?_
        refine TL.done ?_
        refine Lp.go (i + 1) (by repeat (first | exact trivial | refine ⟨rfl, ?_⟩)) ?_ (by first | omega | (dsimp only; omega))
        refine ⟨by omega, fun j hj => ?_, hw2⟩
        rcases Nat.lt_or_ge j i with h | h
        · exact hg j h
        · rw [show j = i by omega]; exact Decidable.not_not.1 (by assumption)
    ·
      have hil : i = l.length := by omega
      subst hil
      refine TC.exit ?_
      refine Thn.exit ?_
      refine Lp.exit ?_
      refine Blk.hit ?_
      refine Thn.go ?_
      refine TC.seq ?_
      refine TC.region ?_
      refine TL.assign rfl rfl ?_
      refine TL.done ?_
      refine Thn.go ?_
      refine TC.ret ?_
      refine Ends.ret [4] rfl rfl ?_
      exact ⟨congrArg Value.bool (decide_eq_true (recs_ext hlm hg)).symm, hch⟩

theorem fn33 (a : Value) (l : List Tm.Timer) (hl : l.length ≤ 100000) (w : World) (ha : Rd w a 5 l.length (l.flatMap cl)) : Rets Try.prog 33 #[a] w (fun v w' => Own w' w.heap.size 27 5 v l.length (l.flatMap cl) ∧ Ch [] w w') := by
  obtain ⟨ad, c, rfl, hnil⟩ := ha.shape
  have hmm : maxLen = 9223372036854775807 := rfl
  refine Rets.of (n := 8) (vs := [_]) Try.func33 rfl rfl rfl ?_
  refine TC.seq ?_
  refine TC.region ?_
  refine TL.assign rfl rfl ?_
  refine TL.done ?_
  refine Thn.go ?_
  refine TC.seq ?_
  refine TC.seq ?_
  refine TC.region ?_
  refine TL.move rfl rfl ?_
  refine TL.eqlNil Try.underlying25 rfl rfl rfl ?_
  refine TL.done ?_
  refine Thn.go ?_
  refine TC.condP rfl (fun h1 => ?_) (fun h1 => ?_)
  ·
    have h0 : l = [] := List.eq_nil_of_length_eq_zero (hnil (by assumption))
    subst h0
    refine TC.seq ?_
    refine TC.region ?_
    refine TL.assign rfl rfl ?_
    refine TL.done ?_
    refine Thn.go ?_
    refine TC.ret ?_
    refine Thn.ret ?_
    refine Ends.ret [2] rfl rfl ?_
    exact ⟨World.ownsRow_nil _ _ _ _, Ch.refl _ _⟩
  ·
    refine TC.skip ?_
    refine Thn.go ?_
    refine TC.seq ?_
    refine TC.region ?_
    refine TL.buildSlice [] sl25 rfl rfl rfl (by decide) (by first | simp [Value.cells]; done | simp [Value.cells, cl_len]; done) rfl (fun w5 hb5 hc5 hz5 => ?_)
    have ho5 : Own w5 w.heap.size 27 5 (.slice (some ⟨w.heap.size, 0, none⟩) 0 0) 0 [] := Own.ofHas (cs := []) hb5 (Nat.le_refl _) (by simp) (by simp)
    refine TL.move rfl rfl ?_
    refine TL.append sl25 rfl rfl rfl (ho5) (News.ofRd Try.underlying25 (ha.ch0 hc5) (rows_one l)) (by omega) (by omega) (by omega) (fun v7 w7 hv7 hc7 _ => ?_)
    refine TL.assign rfl rfl ?_
    refine TL.done ?_
    refine Thn.go ?_
    refine TC.ret ?_
    refine Ends.ret [2] rfl rfl ?_
    exact ⟨by rw [Nat.zero_add] at hv7; exact hv7, ho5.thenCh hc5 hc7⟩

theorem fn15 (a : Value) (l : List Tm.Timer) (hl : l.length ≤ 100000) (w : World) (ha : Rd w a 5 l.length (l.flatMap cl)) : Rets Try.prog 15 #[a] w (fun v w' => (∃ g c, v = .slice (some ⟨g, 0, none⟩) (l.length + 1) c) ∧ Own w' w.heap.size 27 5 v (l.length + 1) ((l ++ [r77]).flatMap cl) ∧ Ch [] w w') := by
  have hmm : maxLen = 9223372036854775807 := rfl
  refine Rets.of (n := 11) (vs := [_]) Try.func15 rfl rfl rfl ?_
  refine TC.seq ?_
  refine TC.region ?_
  refine TL.assign rfl rfl ?_
  refine TL.done ?_
  refine Thn.go ?_
  refine TC.seq ?_
  refine TC.region ?_
  refine TL.assign rfl rfl ?_
  refine TL.done ?_
  refine Thn.go ?_
  refine TC.seq ?_
  refine TC.region ?_
  refine TL.move rfl rfl ?_
  refine TL.move rfl rfl ?_
  refine TL.append sl25 rfl rfl rfl (World.ownsRow_nil _ w.heap.size _ _) (News.ofRd Try.underlying25 (ha) (rows_one _)) (by omega) (by omega) (by omega) (fun v6 w6 hv6 hc6 _ => ?_)
  have q6 : Ch [] w w6 := Own.thenCh (World.ownsRow_nil w w.heap.size 33 6) (Ch.refl _ _) hc6
  have z6 := q6.size
  refine TL.assign rfl rfl ?_
  refine TL.done ?_
  refine Thn.go ?_
  refine TC.seq ?_
  refine TC.region ?_
  refine TL.move rfl rfl ?_
  refine TL.buildRec [1] [.const (Value.int IntKind.i64 77)] (cl r77) rfl rfl (by kernel_rfl) rfl ?_
  refine TL.buildSlice [.tmp 8] sl25 rfl rfl rfl (by decide) (by first | simp [Value.cells]; done | simp [Value.cells, cl_len]; done) rfl (fun w9 hb9 hc9 hz9 => ?_)
  refine TL.append sl25 rfl rfl rfl (hv6.ch0 hc9) (News.ofRd Try.underlying25 (recOne hb9) (rows_one _)) (by omega) (by omega) (by omega) (fun v10 w10 hv10 hc10 _ => ?_)
  refine TL.assign rfl rfl ?_
  refine TL.done ?_
  refine Thn.go ?_
  refine TC.ret ?_
  refine Ends.ret [2] rfl rfl ?_
  refine ⟨?_, ?_, (hv6.ch0 hc9).thenCh (q6.trans0 hc9) hc10⟩
  · rw [Nat.zero_add] at hv10; exact hv10.form (by omega)
  · rw [Nat.zero_add, List.nil_append] at hv10
    rw [List.flatMap_append]; exact hv10

theorem fn31 (a : Value) (l : List Tm.Timer) (f : FuncId) (lb : Array Value) (p : Tm.Timer → Prop) [DecidablePred p] (hf : Callable Try.prog f) (w : World) (ha : Rd w a 5 l.length (l.flatMap cl)) (hp : ∀ x w2, Ch [] w w2 → Rets Try.prog f (#[.agg (cl x).toArray] ++ lb) w2 (fun v w3 => v = .bool (decide (p x)) ∧ Ch [] w2 w3)) : Rets Try.prog 31 #[a, .func (.func f) #[] lb] w (fun v w' => (∃ k : Int, v = .int .i64 k ∧ ((k = -1 ∧ ∀ j, j < l.length → ¬ p (Tm.rec l j)) ∨ ∃ i : Nat, k = (i : Int) ∧ i < l.length ∧ p (Tm.rec l i) ∧ ∀ j, j < i → ¬ p (Tm.rec l j))) ∧ Ch [] w w') := by
  obtain ⟨ad, c, rfl, _⟩ := ha.shape
  have hmx : l.length ≤ 9223372036854775807 := ha.nlt
  refine Rets.of (n := 19) (vs := [_, _]) Try.func31 rfl rfl rfl ?_
  refine TC.seq ?_
  refine TC.region ?_
  refine TL.assign rfl rfl ?_
  refine TL.done ?_
  refine Thn.go ?_
  refine TC.seq ?_
  refine TC.seq ?_
  refine TC.region ?_
  refine TL.move rfl rfl ?_
  refine TL.lenSlice Try.underlying25 rfl rfl ?_
  refine TL.move rfl rfl ?_
  refine TL.done ?_
  refine Thn.go ?_
  refine TC.block ?_
  refine TC.loop1 (fun (i : Nat) => [(0, .slice ad l.length c), (1, .func (.func f) #[] lb), (7, .int .i64 (l.length : Int)), (8, .int .i64 (i : Int))]) (fun i w' => i ≤ l.length ∧ (∀ j, j < i → ¬ p (Tm.rec l j)) ∧ Ch [] w w') (fun i => l.length - i) 0 (by repeat (first | exact trivial | refine ⟨rfl, ?_⟩)) (⟨by omega, by intro j hj; omega, Ch.refl _ _⟩) (fun i w' hH => ?_)
  obtain ⟨hi, hg, hch⟩ := hH
  refine TC.seq ?_
  refine TC.region ?_
  refine TL.lss rfl rfl rfl ?_
  refine TL.done ?_
  refine Thn.go ?_
  refine TC.seq ?_
  refine TC.condP rfl (fun h1 => ?_) (fun h1 => ?_)
  ·
    have hil : i < l.length := by omega
    obtain ⟨b1, o1, rfl, hce⟩ := recAt (ha.ch0 hch) hil
    refine TC.skip ?_
    refine Thn.go ?_
    refine TC.seq ?_
    refine TC.block ?_
    refine TC.seq ?_
    refine TC.region ?_
    refine TL.move rfl rfl ?_
    refine TL.assign rfl rfl ?_
    refine TL.done ?_
    refine Thn.go ?_
    refine TC.seq ?_
    refine TC.region ?_
    refine TL.move rfl rfl ?_
    refine TL.move rfl rfl ?_
    refine TL.move rfl rfl ?_
    refine TL.indexAddr (i) sl25 rfl rfl (by first | rfl | omega) (by omega) rfl ?_
    refine TL.loadAgg (cl (Tm.rec l i)) ag27 rfl rfl (fun j hj => hce j hj) rfl ?_
    refine TL.callVal hf (R := fun v w2 => v = .bool (decide (p (Tm.rec l i))) ∧ Ch [] w' w2) rfl rfl rfl (by simpa using hp (Tm.rec l i) w' hch) (fun v16 w16 hr16 => ?_)
    obtain ⟨rfl, hc16⟩ := hr16
    refine TL.done ?_
    refine Thn.go ?_
    refine TC.condP rfl (fun h2 => ?_) (fun h2 => ?_)
    ·
      refine TC.seq ?_
      refine TC.region ?_
      refine TL.move rfl rfl ?_
      refine TL.assign rfl rfl ?_
      refine TL.done ?_
      refine Thn.go ?_
      refine TC.ret ?_
      refine Blk.ret ?_
      refine Thn.ret ?_
      refine Lp.ret ?_
      refine Blk.ret ?_
      refine Thn.ret ?_
      refine Ends.ret [4] rfl rfl ?_
      exact ⟨⟨_, rfl, .inr ⟨i, rfl, hil, by assumption, hg⟩⟩, hch.trans0 hc16⟩
    ·
      refine TC.skip ?_
      refine Blk.go ?_
      refine Thn.go ?_
      refine TC.region ?_
      refine TL.add_i64 rfl rfl (by omega) (by omega) rfl ?_
      refine TL.move rfl rfl ?_
      refine TL.done ?_
      refine Lp.go (i + 1) (by repeat (first | exact trivial | refine ⟨rfl, ?_⟩)) ?_ (by first | omega | (dsimp only; omega))
      refine ⟨by omega, fun j hj => ?_, hch.trans0 hc16⟩
      rcases Nat.lt_or_ge j i with h | h
      · exact hg j h
      · rw [show j = i by omega]; assumption
  ·
    have hil : i = l.length := by omega
    subst hil
    refine TC.exit ?_
    refine Thn.exit ?_
    refine Lp.exit ?_
    refine Blk.hit ?_
    refine Thn.go ?_
    refine TC.seq ?_
    refine TC.region ?_
    refine TL.assign rfl rfl ?_
    refine TL.done ?_
    refine Thn.go ?_
    refine TC.ret ?_
    refine Ends.ret [4] rfl rfl ?_
    exact ⟨⟨_, rfl, .inl ⟨rfl, hg⟩⟩, hch⟩

theorem fn44 (x : Tm.Timer) (b : Nat) (k : Int) (w : World) (hu : Has w b #[.int .i64 k] 3 (0, 0)) : Rets Try.prog 44 #[.agg (cl x).toArray, .pointer (some ⟨b, 0, none⟩)] w (fun v w' => v = .bool (decide (x.seq = k)) ∧ Ch [] w w') := by
  refine Rets.of (n := 8) (vs := [_, _]) Try.func44 rfl rfl rfl ?_
  refine TC.seq ?_
  refine TC.region ?_
  refine TL.box rfl rfl (fun w2 hb2 hc2 hz2 => ?_)
  refine TL.assign rfl rfl ?_
  refine TL.done ?_
  refine Thn.go ?_
  refine TC.seq ?_
  refine TC.region ?_
  refine TL.fieldAddr fd27k1 rfl rfl ?_
  refine TL.load pl3 rfl (hb2.cell _) rfl ?_
  refine TL.load pl3 rfl ((hu.ch0 hc2).cell _) rfl ?_
  refine TL.eql rfl rfl rfl ?_
  refine TL.assign rfl rfl ?_
  refine TL.done ?_
  refine Thn.go ?_
  refine TC.ret ?_
  refine Ends.ret [3] rfl rfl ?_
  exact ⟨rfl, hc2⟩

theorem fn32 (x : Tm.Timer) (b : Nat) (k : Int) (w : World) (hu : Has w b #[.int .i64 k] 3 (0, 0)) : Rets Try.prog 32 #[.agg (cl x).toArray, .pointer (some ⟨b, 0, none⟩)] w (fun v w' => v = .bool (decide (x.at_ > k)) ∧ Ch [] w w') := by
  refine Rets.of (n := 8) (vs := [_, _]) Try.func32 rfl rfl rfl ?_
  refine TC.seq ?_
  refine TC.region ?_
  refine TL.box rfl rfl (fun w2 hb2 hc2 hz2 => ?_)
  refine TL.assign rfl rfl ?_
  refine TL.done ?_
  refine Thn.go ?_
  refine TC.seq ?_
  refine TC.region ?_
  refine TL.fieldAddr fd27k0 rfl rfl ?_
  refine TL.load pl3 rfl (hb2.cell _) rfl ?_
  refine TL.load pl3 rfl ((hu.ch0 hc2).cell _) rfl ?_
  refine TL.gtr rfl rfl rfl ?_
  refine TL.assign rfl rfl ?_
  refine TL.done ?_
  refine Thn.go ?_
  refine TC.ret ?_
  refine Ends.ret [3] rfl rfl ?_
  exact ⟨rfl, hc2⟩

theorem fn43 (a : Value) (l : List Tm.Timer) (b : Nat) (k : Int) (w : World) (ha : Rd w a 5 l.length (l.flatMap cl)) (hu : Has w b #[.int .i64 k] 3 (0, 0)) : Rets Try.prog 43 #[a, .func (.func 44) #[] #[.pointer (some ⟨b, 0, none⟩)]] w (fun v w' => v = .bool (decide (Tm.has l k)) ∧ Ch [] w w') := by
  refine Rets.of (n := 9) (vs := [_, _]) Try.func43 rfl rfl rfl ?_
  refine TC.seq ?_
  refine TC.region ?_
  refine TL.assign rfl rfl ?_
  refine TL.done ?_
  refine Thn.go ?_
  refine TC.seq ?_
  refine TC.region ?_
  refine TL.move rfl rfl ?_
  refine TL.move rfl rfl ?_
  refine TL.call can31 rfl rfl (fn31 a l 44 #[.pointer (some ⟨b, 0, none⟩)] (fun x => x.seq = k) can44 w ha (fun x w2 h2 => by simpa using fn44 x b k w2 (hu.ch0 h2))) (fun v7 w7 hr7 => ?_)
  obtain ⟨⟨n, rfl, hk⟩, hc7⟩ := hr7
  refine TL.geq rfl rfl rfl ?_
  refine TL.assign rfl rfl ?_
  refine TL.done ?_
  refine Thn.go ?_
  refine TC.ret ?_
  refine Ends.ret [4] rfl rfl ?_
  refine ⟨congrArg Value.bool (decide_eq_decide.2 ?_), hc7⟩
  rcases hk with ⟨h1, h2⟩ | ⟨i, h1, h2, h3, _⟩
  · exact ⟨fun h => by omega, fun ⟨t, ht, e⟩ => by obtain ⟨j, hj, rfl⟩ := List.getElem_of_mem ht; rw [Tm.rec_eq hj] at e; exact absurd e (h2 j hj)⟩
  · exact ⟨fun _ => ⟨_, Tm.rec_mem h2, h3⟩, fun _ => by omega⟩

theorem fn29 (a : Value) (l : List Tm.Timer) (k : Int) (w : World) (ha : Rd w a 5 l.length (l.flatMap cl)) : Rets Try.prog 29 #[a, .int .i64 k] w (fun v w' => v = .bool (decide (Tm.has l k)) ∧ Ch [] w w') := by
  refine Rets.of (n := 8) (vs := [_, _]) Try.func29 rfl rfl rfl ?_
  refine TC.seq ?_
  refine TC.region ?_
  refine TL.box rfl rfl (fun w3 hb3 hc3 hz3 => ?_)
  replace hb3 : Has w3 w.heap.size #[.int .i64 k] 3 (0, 0) := hb3
  refine TL.assign rfl rfl ?_
  refine TL.done ?_
  refine Thn.go ?_
  refine TC.seq ?_
  refine TC.region ?_
  refine TL.move rfl rfl ?_
  refine TL.makeFn (cs := [.tmp 3]) (vs := [_]) rfl rfl ?_
  refine TL.call can43 rfl rfl (fn43 a l w.heap.size k w3 (ha.ch0 hc3) hb3) (fun v7 w7 hr7 => ?_)
  obtain ⟨rfl, hc7⟩ := hr7
  refine TL.assign rfl rfl ?_
  refine TL.done ?_
  refine Thn.go ?_
  refine TC.ret ?_
  refine Ends.ret [4] rfl rfl ?_
  exact ⟨rfl, hc3.trans0 hc7⟩

theorem fn26 (a : Value) (l : List Tm.Timer) (k : Int) (w : World) (ha : Rd w a 5 l.length (l.flatMap cl)) : Rets Try.prog 26 #[a, .int .i64 k] w (fun v w' => v = .bool (decide (Tm.has l k)) ∧ w' = w) := by
  obtain ⟨ad, c, rfl, _⟩ := ha.shape
  have hmx : l.length ≤ 9223372036854775807 := ha.nlt
  refine Rets.of (n := 19) (vs := [_, _]) Try.func26 rfl rfl rfl ?_
  refine TC.seq ?_
  refine TC.region ?_
  refine TL.assign rfl rfl ?_
  refine TL.done ?_
  refine Thn.go ?_
  refine TC.seq ?_
  refine TC.seq ?_
  refine TC.region ?_
  refine TL.assign rfl rfl ?_
  refine TL.done ?_
  refine Thn.go ?_
  refine TC.block ?_
  refine TC.loop1 (fun (i : Nat) => [(0, .slice ad l.length c), (1, .int .i64 k), (5, .int .i64 (i : Int))]) (fun i w' => i ≤ l.length ∧ (∀ j, j < i → (Tm.rec l j).seq ≠ k) ∧ w' = w) (fun i => l.length - i) 0 (by repeat (first | exact trivial | refine ⟨rfl, ?_⟩)) (⟨by omega, by intro j hj; omega, rfl⟩) (fun i w' hH => ?_)
  obtain ⟨hi, hg, hw'⟩ := hH
  subst hw'
  refine TC.seq ?_
  refine TC.seq ?_
  refine TC.region ?_
  refine TL.move rfl rfl ?_
  refine TL.move rfl rfl ?_
  refine TL.lenSlice Try.underlying25 rfl rfl ?_
  refine TL.lss rfl rfl rfl ?_
  refine TL.done ?_
  refine Thn.go ?_
  refine TC.condP rfl (fun h1 => ?_) (fun h1 => ?_)
  ·
    have hil : i < l.length := by omega
    obtain ⟨b1, o1, rfl, hce⟩ := recAt ha hil
    refine TC.skip ?_
    refine Thn.go ?_
    refine TC.seq ?_
    refine TC.block ?_
    refine TC.seq ?_
    refine TC.region ?_
    refine TL.move rfl rfl ?_
    refine TL.move rfl rfl ?_
    refine TL.indexAddr (i) sl25 rfl rfl (by first | rfl | omega) (by omega) rfl ?_
    refine TL.fieldAddr fd27k1 rfl rfl ?_
    refine TL.load pl3 rfl ((show _ = some (Value.int .i64 (Tm.rec l i).seq) from hce 1 (by decide))) rfl ?_
    refine TL.move rfl rfl ?_
    refine TL.eql rfl rfl rfl ?_
    refine TL.done ?_
    refine Thn.go ?_
    refine TC.condP rfl (fun h2 => ?_) (fun h2 => ?_)
    ·
      refine TC.seq ?_
      refine TC.region ?_
      refine TL.assign rfl rfl ?_
      refine TL.done ?_
      refine Thn.go ?_
      refine TC.ret ?_
      refine Blk.ret ?_
      refine Thn.ret ?_
      refine Lp.ret ?_
      refine Blk.ret ?_
      refine Thn.ret ?_
      refine Ends.ret [4] rfl rfl ?_
      exact ⟨congrArg Value.bool (decide_eq_true ⟨_, Tm.rec_mem hil, by assumption⟩).symm, rfl⟩
    ·
      refine TC.skip ?_
      refine Blk.go ?_
      refine Thn.go ?_
      refine TC.region ?_
      refine TL.move rfl rfl ?_
      refine TL.add_i64 rfl rfl (by omega) (by omega) rfl ?_
      refine TL.assign rfl rfl ?_
      refine TL.done ?_
      refine Lp.go (i + 1) (by repeat (first | exact trivial | refine ⟨rfl, ?_⟩)) ?_ (by first | omega | (dsimp only; omega))
      refine ⟨by omega, fun j hj => ?_, rfl⟩
      rcases Nat.lt_or_ge j i with h | h
      · exact hg j h
      · rw [show j = i by omega]; assumption
  ·
    have hil : i = l.length := by omega
    refine TC.exit ?_
    refine Thn.exit ?_
    refine Lp.exit ?_
    refine Blk.hit ?_
    refine Thn.go ?_
    refine TC.seq ?_
    refine TC.region ?_
    refine TL.assign rfl rfl ?_
    refine TL.done ?_
    refine Thn.go ?_
    refine TC.ret ?_
    refine Ends.ret [4] rfl rfl ?_
    exact ⟨congrArg Value.bool (decide_eq_false (fun ⟨t, ht, e⟩ => by obtain ⟨j, hj, rfl⟩ := List.getElem_of_mem ht; rw [Tm.rec_eq hj] at e; exact absurd e (hg j (by omega)))).symm, rfl⟩

