/-
  Walks through the given program: each theorem fnN says what the call of function N of the translation hands back, for all arguments that its premises describe, and that nothing that was there has turned.
-/
import Derived.Test.YtcoaophfojkldaaR0
namespace Go.Proofs.Ytcoaophfojkldaa
open Go.Lane
theorem can32 : Callable Try.prog 32 := ⟨Try.f32, Try.func32, by kernel_rfl, rfl⟩
theorem can35 : Callable Try.prog 35 := ⟨Try.f35, Try.func35, by kernel_rfl, rfl⟩
theorem can46 : Callable Try.prog 46 := ⟨Try.f46, Try.func46, by kernel_rfl, rfl⟩
theorem can47 : Callable Try.prog 47 := ⟨Try.f47, Try.func47, by kernel_rfl, rfl⟩
theorem can49 : Callable Try.prog 49 := ⟨Try.f49, Try.func49, by kernel_rfl, rfl⟩
theorem can50 : Callable Try.prog 50 := ⟨Try.f50, Try.func50, by kernel_rfl, rfl⟩
theorem fd32k0 : FieldT Try.prog 32 0 3 0 1 := ⟨_, _, Try.underlying32, rfl, rfl, rfl, by kernel_rfl, by decide⟩
theorem fd32k1 : FieldT Try.prog 32 1 3 1 1 := ⟨_, _, Try.underlying32, rfl, rfl, rfl, by kernel_rfl, by decide⟩
theorem fd32k2 : FieldT Try.prog 32 2 9 2 1 := ⟨_, _, Try.underlying32, rfl, rfl, rfl, by kernel_rfl, by decide⟩
theorem fd32k3 : FieldT Try.prog 32 3 9 3 1 := ⟨_, _, Try.underlying32, rfl, rfl, rfl, by kernel_rfl, by decide⟩
theorem fd32k4 : FieldT Try.prog 32 4 3 4 1 := ⟨_, _, Try.underlying32, rfl, rfl, rfl, by kernel_rfl, by decide⟩
theorem fd32k5 : FieldT Try.prog 32 5 9 5 1 := ⟨_, _, Try.underlying32, rfl, rfl, rfl, by kernel_rfl, by decide⟩
theorem pl3 : Plain Try.prog 3 := ⟨_, Try.underlying3, rfl⟩
theorem pl9 : Plain Try.prog 9 := ⟨_, Try.underlying9, rfl⟩
theorem sl74 : SliceT Try.prog 74 3 1 8 (.int .i64 0) := SliceT.mk' Try.underlying74 (by kernel_rfl) rfl rfl

theorem fn32 (s : List UInt8) (hs : s.length ≤ 100000) (w : World) : Rets Try.prog 32 #[str s] w (fun v w' => v = .bool (decide (Audit.digest s)) ∧ Ch [] w w') := by
  have hiff : Audit.digest s ↔ ((Hex.unE s : Int) = 0 ∧ ((Hex.unL s).length : Int) = 32) := by
    constructor
    · rintro ⟨h1, h2⟩; exact ⟨by omega, by have := (Audit.digest_half h1).2 h2; omega⟩
    · rintro ⟨h1, h2⟩; exact ⟨by omega, (Audit.digest_half (by omega)).1 (by omega)⟩
  refine Rets.of (n := 17) (vs := [_]) Try.func32 rfl rfl rfl ?_
  refine TC.seq ?_
  refine TC.region ?_
  refine TL.assign rfl rfl ?_
  refine TL.done ?_
  refine Thn.go ?_
  refine TC.seq ?_
  refine TC.region ?_
  refine TL.move rfl rfl ?_
  refine TL.call can45 rfl rfl (fn45 s hs w) (fun v7 w7 hr7 => ?_)
  obtain ⟨r7, rfl, hv7, hc7⟩ := hr7
  obtain ⟨a7, c7, rfl⟩ := hv7.shape
  refine TL.move rfl rfl ?_
  refine TL.extract rfl rfl rfl ?_
  refine TL.extract rfl rfl rfl ?_
  refine TL.assign rfl rfl ?_
  refine TL.assign rfl rfl ?_
  refine TL.done ?_
  refine Thn.go ?_
  refine TC.cut0 ([(2, .bool (decide (Audit.digest s)))]) (fun w' => Ch [] w w') (fun K1 hK1 => ?_) (fun w' hH => ?_)
  ·
    refine TC.region ?_
    refine TL.move rfl rfl ?_
    refine TL.eql rfl rfl rfl ?_
    refine TL.em (fun e11 => ?_) (fun e11 => ?_)
    ·
      refine TL.move rfl rfl ?_
      refine TL.guardYes (d := 12) rfl rfl rfl ?_
      refine TL.move rfl rfl ?_
      refine TL.guardYes (d := 12) rfl rfl rfl ?_
      refine TL.lenSlice Try.underlying50 rfl rfl ?_
      refine TL.guardYes (d := 12) rfl rfl rfl ?_
      refine TL.eql rfl rfl rfl ?_
      refine TL.pickT rfl rfl rfl rfl ?_
      refine TL.assign rfl rfl ?_
      refine TL.done ?_
      exact hK1  _ _ (by repeat (first | exact trivial | refine ⟨rfl, ?_⟩ | refine ⟨congrArg (fun b => some (Value.bool b)) (by first | exact (decide_eq_true (by grind)).symm | exact (decide_eq_false (by grind)).symm | exact decide_eq_decide.2 (by grind) | exact decide_eq_true (by grind) | exact decide_eq_false (by grind) | (exfalso; grind)), ?_⟩)) (hc7)
    ·
      refine TL.move rfl rfl ?_
      refine TL.guardNo (d := 12) rfl rfl rfl rfl rfl ?_
      refine TL.guardNo (d := 12) rfl rfl rfl rfl rfl ?_
      refine TL.guardNo (d := 12) rfl rfl rfl rfl rfl ?_
      refine TL.pickF rfl rfl rfl rfl ?_
      refine TL.assign rfl rfl ?_
      refine TL.done ?_
      exact hK1  _ _ (by repeat (first | exact trivial | refine ⟨rfl, ?_⟩ | refine ⟨congrArg (fun b => some (Value.bool b)) (by first | exact (decide_eq_true (by grind)).symm | exact (decide_eq_false (by grind)).symm | exact decide_eq_decide.2 (by grind) | exact decide_eq_true (by grind) | exact decide_eq_false (by grind) | (exfalso; grind)), ?_⟩)) (hc7)
  ·
    refine TC.ret ?_
    refine Ends.ret [2] rfl rfl ?_
    exact ⟨rfl, hH⟩

theorem fn35 (s : List UInt8) (hs : s.length ≤ 100000) (w : World) : Rets Try.prog 35 #[str s] w (fun v w' => v = .bool (decide (Audit.digest s)) ∧ Ch [] w w') := by
  have hiff : Audit.digest s ↔ ((Hex.unE s : Int) = 0 ∧ (s.length : Int) = 64) := by
    constructor
    · rintro ⟨h1, h2⟩; exact ⟨by omega, by omega⟩
    · rintro ⟨h1, h2⟩; exact ⟨by omega, by omega⟩
  refine Rets.of (n := 17) (vs := [_]) Try.func35 rfl rfl rfl ?_
  refine TC.seq ?_
  refine TC.region ?_
  refine TL.assign rfl rfl ?_
  refine TL.done ?_
  refine Thn.go ?_
  refine TC.seq ?_
  refine TC.region ?_
  refine TL.move rfl rfl ?_
  refine TL.call can48 rfl rfl (fn48 s hs w) (fun v7 w7 hr7 => ?_)
  obtain ⟨r7, rfl, hv7, hc7⟩ := hr7
  refine TL.move rfl rfl ?_
  refine TL.extract rfl rfl rfl ?_
  refine TL.extract rfl rfl rfl ?_
  refine TL.assign rfl rfl ?_
  refine TL.assign rfl rfl ?_
  refine TL.done ?_
  refine Thn.go ?_
  refine TC.cut0 ([(2, .bool (decide (Audit.digest s)))]) (fun w' => Ch [] w w') (fun K1 hK1 => ?_) (fun w' hH => ?_)
  ·
    refine TC.region ?_
    refine TL.move rfl rfl ?_
    refine TL.eql rfl rfl rfl ?_
    refine TL.em (fun e11 => ?_) (fun e11 => ?_)
    ·
      refine TL.move rfl rfl ?_
      refine TL.guardYes (d := 12) rfl rfl rfl ?_
      refine TL.move rfl rfl ?_
      refine TL.guardYes (d := 12) rfl rfl rfl ?_
      refine TL.lenStr Try.underlying9 rfl rfl ?_
      refine TL.guardYes (d := 12) rfl rfl rfl ?_
      refine TL.eql rfl rfl rfl ?_
      refine TL.pickT rfl rfl rfl rfl ?_
      refine TL.assign rfl rfl ?_
      refine TL.done ?_
      exact hK1  _ _ (by repeat (first | exact trivial | refine ⟨rfl, ?_⟩ | refine ⟨congrArg (fun b => some (Value.bool b)) (by first | exact (decide_eq_true (by grind)).symm | exact (decide_eq_false (by grind)).symm | exact decide_eq_decide.2 (by grind) | exact decide_eq_true (by grind) | exact decide_eq_false (by grind) | (exfalso; grind)), ?_⟩)) (hc7)
    ·
      refine TL.move rfl rfl ?_
      refine TL.guardNo (d := 12) rfl rfl rfl rfl rfl ?_
      refine TL.guardNo (d := 12) rfl rfl rfl rfl rfl ?_
      refine TL.guardNo (d := 12) rfl rfl rfl rfl rfl ?_
      refine TL.pickF rfl rfl rfl rfl ?_
      refine TL.assign rfl rfl ?_
      refine TL.done ?_
      exact hK1  _ _ (by repeat (first | exact trivial | refine ⟨rfl, ?_⟩ | refine ⟨congrArg (fun b => some (Value.bool b)) (by first | exact (decide_eq_true (by grind)).symm | exact (decide_eq_false (by grind)).symm | exact decide_eq_decide.2 (by grind) | exact decide_eq_true (by grind) | exact decide_eq_false (by grind) | (exfalso; grind)), ?_⟩)) (hc7)
  ·
    refine TC.ret ?_
    refine Ends.ret [2] rfl rfl ?_
    exact ⟨rfl, hH⟩

theorem fn31 (r : Audit.Record) (hr : r.hash.length ≤ 100000) (w : World) : Rets Try.prog 31 #[.agg (cl r).toArray] w (fun v w' => v = .bool (decide (Audit.may r)) ∧ Ch [] w w') := by
  have hiff : Audit.may r ↔ (0 ≤ r.seq ∧ 0 ≤ r.at_ ∧ r.at_ ≤ 1099511627776 ∧ (r.user.length : Int) ≤ 32 ∧ (r.deed.length : Int) ≤ 16384 ∧ 100 ≤ r.outcome ∧ r.outcome ≤ 599 ∧ Audit.digest r.hash) := by
    unfold Audit.may; constructor <;> (rintro ⟨a1, a2, a3, a4, a5, a6, a7, a8⟩; exact ⟨a1, a2, a3, by omega, by omega, a6, a7, a8⟩)
  refine Rets.of (n := 43) (vs := [_]) Try.func31 rfl rfl rfl ?_
  refine TC.seq ?_
  refine TC.region ?_
  refine TL.box rfl rfl (fun w1 hb1 hc1 hz1 => ?_)
  refine TL.assign rfl rfl ?_
  refine TL.done ?_
  refine Thn.go ?_
  refine TC.cut0 ([(2, .bool (decide (Audit.may r)))]) (fun w' => Ch [] w w') (fun K1 hK1 => ?_) (fun w' hH => ?_)
  ·
    refine TC.region ?_
    refine TL.fieldAddr fd32k0 rfl rfl ?_
    refine TL.load pl3 rfl (hb1.cell _) rfl ?_
    refine TL.geq rfl rfl rfl ?_
    refine TL.em (fun e5 => ?_) (fun e5 => ?_)
    ·
      refine TL.move rfl rfl ?_
      refine TL.guardYes (d := 6) rfl rfl rfl ?_
      refine TL.fieldAddr fd32k1 rfl rfl ?_
      refine TL.guardYes (d := 6) rfl rfl rfl ?_
      refine TL.load pl3 rfl (hb1.cell _) rfl ?_
      refine TL.guardYes (d := 6) rfl rfl rfl ?_
      refine TL.geq rfl rfl rfl ?_
      refine TL.em (fun e9 => ?_) (fun e9 => ?_)
      ·
        refine TL.pickT rfl rfl rfl rfl ?_
        refine TL.move rfl rfl ?_
        refine TL.guardYes (d := 11) rfl rfl rfl ?_
        refine TL.fieldAddr fd32k1 rfl rfl ?_
        refine TL.guardYes (d := 11) rfl rfl rfl ?_
        refine TL.load pl3 rfl (hb1.cell _) rfl ?_
        refine TL.guardYes (d := 11) rfl rfl rfl ?_
        refine TL.leq rfl rfl rfl ?_
        refine TL.em (fun e14 => ?_) (fun e14 => ?_)
        ·
          refine TL.pickT rfl rfl rfl rfl ?_
          refine TL.move rfl rfl ?_
          refine TL.guardYes (d := 16) rfl rfl rfl ?_
          refine TL.fieldAddr fd32k2 rfl rfl ?_
          refine TL.guardYes (d := 16) rfl rfl rfl ?_
          refine TL.load pl9 rfl (hb1.cell _) rfl ?_
          refine TL.guardYes (d := 16) rfl rfl rfl ?_
          refine TL.lenStr Try.underlying9 rfl rfl ?_
          refine TL.guardYes (d := 16) rfl rfl rfl ?_
          refine TL.leq rfl rfl rfl ?_
          refine TL.em (fun e20 => ?_) (fun e20 => ?_)
          ·
            refine TL.pickT rfl rfl rfl rfl ?_
            refine TL.move rfl rfl ?_
            refine TL.guardYes (d := 22) rfl rfl rfl ?_
            refine TL.fieldAddr fd32k3 rfl rfl ?_
            refine TL.guardYes (d := 22) rfl rfl rfl ?_
            refine TL.load pl9 rfl (hb1.cell _) rfl ?_
            refine TL.guardYes (d := 22) rfl rfl rfl ?_
            refine TL.lenStr Try.underlying9 rfl rfl ?_
            refine TL.guardYes (d := 22) rfl rfl rfl ?_
            refine TL.leq rfl rfl rfl ?_
            refine TL.em (fun e26 => ?_) (fun e26 => ?_)
            ·
              refine TL.pickT rfl rfl rfl rfl ?_
              refine TL.move rfl rfl ?_
              refine TL.guardYes (d := 28) rfl rfl rfl ?_
              refine TL.fieldAddr fd32k4 rfl rfl ?_
              refine TL.guardYes (d := 28) rfl rfl rfl ?_
              refine TL.load pl3 rfl (hb1.cell _) rfl ?_
              refine TL.guardYes (d := 28) rfl rfl rfl ?_
              refine TL.geq rfl rfl rfl ?_
              refine TL.em (fun e31 => ?_) (fun e31 => ?_)
              ·
                refine TL.pickT rfl rfl rfl rfl ?_
                refine TL.move rfl rfl ?_
                refine TL.guardYes (d := 33) rfl rfl rfl ?_
                refine TL.fieldAddr fd32k4 rfl rfl ?_
                refine TL.guardYes (d := 33) rfl rfl rfl ?_
                refine TL.load pl3 rfl (hb1.cell _) rfl ?_
                refine TL.guardYes (d := 33) rfl rfl rfl ?_
                refine TL.leq rfl rfl rfl ?_
                refine TL.em (fun e36 => ?_) (fun e36 => ?_)
                ·
                  refine TL.pickT rfl rfl rfl rfl ?_
                  refine TL.move rfl rfl ?_
                  refine TL.guardYes (d := 38) rfl rfl rfl ?_
                  refine TL.fieldAddr fd32k5 rfl rfl ?_
                  refine TL.guardYes (d := 38) rfl rfl rfl ?_
                  refine TL.load pl9 rfl (hb1.cell _) rfl ?_
                  refine TL.guardYes (d := 38) rfl rfl rfl ?_
                  refine TL.call can32 rfl rfl (fn32 r.hash hr w1) (fun v41 w41 hr41 => ?_)
                  obtain ⟨rfl, hc41⟩ := hr41
                  refine TL.pickT rfl rfl rfl rfl ?_
                  refine TL.assign rfl rfl ?_
                  refine TL.done ?_
                  exact hK1  _ _ (by repeat (first | exact trivial | refine ⟨rfl, ?_⟩ | refine ⟨congrArg (fun b => some (Value.bool b)) (by first | exact (decide_eq_true (by grind)).symm | exact (decide_eq_false (by grind)).symm | exact decide_eq_decide.2 (by grind) | exact decide_eq_true (by grind) | exact decide_eq_false (by grind) | (exfalso; grind)), ?_⟩)) (hc1.trans0 hc41)
                ·
                  refine TL.pickT rfl rfl rfl rfl ?_
                  refine TL.move rfl rfl ?_
                  refine TL.guardNo (d := 38) rfl rfl rfl rfl rfl ?_
                  refine TL.guardNo (d := 38) rfl rfl rfl rfl rfl ?_
                  refine TL.guardNo (d := 38) rfl rfl rfl rfl rfl ?_
                  refine TL.pickF rfl rfl rfl rfl ?_
                  refine TL.assign rfl rfl ?_
                  refine TL.done ?_
                  exact hK1  _ _ (by repeat (first | exact trivial | refine ⟨rfl, ?_⟩ | refine ⟨congrArg (fun b => some (Value.bool b)) (by first | exact (decide_eq_true (by grind)).symm | exact (decide_eq_false (by grind)).symm | exact decide_eq_decide.2 (by grind) | exact decide_eq_true (by grind) | exact decide_eq_false (by grind) | (exfalso; grind)), ?_⟩)) (hc1)
              ·
                refine TL.pickT rfl rfl rfl rfl ?_
                refine TL.move rfl rfl ?_
                refine TL.guardNo (d := 33) rfl rfl rfl rfl rfl ?_
                refine TL.guardNo (d := 33) rfl rfl rfl rfl rfl ?_
                refine TL.guardNo (d := 33) rfl rfl rfl rfl rfl ?_
                refine TL.pickF rfl rfl rfl rfl ?_
                refine TL.move rfl rfl ?_
                refine TL.guardNo (d := 38) rfl rfl rfl rfl rfl ?_
                refine TL.guardNo (d := 38) rfl rfl rfl rfl rfl ?_
                refine TL.guardNo (d := 38) rfl rfl rfl rfl rfl ?_
                refine TL.pickF rfl rfl rfl rfl ?_
                refine TL.assign rfl rfl ?_
                refine TL.done ?_
                exact hK1  _ _ (by repeat (first | exact trivial | refine ⟨rfl, ?_⟩ | refine ⟨congrArg (fun b => some (Value.bool b)) (by first | exact (decide_eq_true (by grind)).symm | exact (decide_eq_false (by grind)).symm | exact decide_eq_decide.2 (by grind) | exact decide_eq_true (by grind) | exact decide_eq_false (by grind) | (exfalso; grind)), ?_⟩)) (hc1)
            ·
              refine TL.pickT rfl rfl rfl rfl ?_
              refine TL.move rfl rfl ?_
              refine TL.guardNo (d := 28) rfl rfl rfl rfl rfl ?_
              refine TL.guardNo (d := 28) rfl rfl rfl rfl rfl ?_
              refine TL.guardNo (d := 28) rfl rfl rfl rfl rfl ?_
              refine TL.pickF rfl rfl rfl rfl ?_
              refine TL.move rfl rfl ?_
              refine TL.guardNo (d := 33) rfl rfl rfl rfl rfl ?_
              refine TL.guardNo (d := 33) rfl rfl rfl rfl rfl ?_
              refine TL.guardNo (d := 33) rfl rfl rfl rfl rfl ?_
              refine TL.pickF rfl rfl rfl rfl ?_
              refine TL.move rfl rfl ?_
              refine TL.guardNo (d := 38) rfl rfl rfl rfl rfl ?_
              refine TL.guardNo (d := 38) rfl rfl rfl rfl rfl ?_
              refine TL.guardNo (d := 38) rfl rfl rfl rfl rfl ?_
              refine TL.pickF rfl rfl rfl rfl ?_
              refine TL.assign rfl rfl ?_
              refine TL.done ?_
              exact hK1  _ _ (by repeat (first | exact trivial | refine ⟨rfl, ?_⟩ | refine ⟨congrArg (fun b => some (Value.bool b)) (by first | exact (decide_eq_true (by grind)).symm | exact (decide_eq_false (by grind)).symm | exact decide_eq_decide.2 (by grind) | exact decide_eq_true (by grind) | exact decide_eq_false (by grind) | (exfalso; grind)), ?_⟩)) (hc1)
          ·
            refine TL.pickT rfl rfl rfl rfl ?_
            refine TL.move rfl rfl ?_
            refine TL.guardNo (d := 22) rfl rfl rfl rfl rfl ?_
            refine TL.guardNo (d := 22) rfl rfl rfl rfl rfl ?_
            refine TL.guardNo (d := 22) rfl rfl rfl rfl rfl ?_
            refine TL.guardNo (d := 22) rfl rfl rfl rfl rfl ?_
            refine TL.pickF rfl rfl rfl rfl ?_
            refine TL.move rfl rfl ?_
            refine TL.guardNo (d := 28) rfl rfl rfl rfl rfl ?_
            refine TL.guardNo (d := 28) rfl rfl rfl rfl rfl ?_
            refine TL.guardNo (d := 28) rfl rfl rfl rfl rfl ?_
            refine TL.pickF rfl rfl rfl rfl ?_
            refine TL.move rfl rfl ?_
            refine TL.guardNo (d := 33) rfl rfl rfl rfl rfl ?_
            refine TL.guardNo (d := 33) rfl rfl rfl rfl rfl ?_
            refine TL.guardNo (d := 33) rfl rfl rfl rfl rfl ?_
            refine TL.pickF rfl rfl rfl rfl ?_
            refine TL.move rfl rfl ?_
            refine TL.guardNo (d := 38) rfl rfl rfl rfl rfl ?_
            refine TL.guardNo (d := 38) rfl rfl rfl rfl rfl ?_
            refine TL.guardNo (d := 38) rfl rfl rfl rfl rfl ?_
            refine TL.pickF rfl rfl rfl rfl ?_
            refine TL.assign rfl rfl ?_
            refine TL.done ?_
            exact hK1  _ _ (by repeat (first | exact trivial | refine ⟨rfl, ?_⟩ | refine ⟨congrArg (fun b => some (Value.bool b)) (by first | exact (decide_eq_true (by grind)).symm | exact (decide_eq_false (by grind)).symm | exact decide_eq_decide.2 (by grind) | exact decide_eq_true (by grind) | exact decide_eq_false (by grind) | (exfalso; grind)), ?_⟩)) (hc1)
        ·
          refine TL.pickT rfl rfl rfl rfl ?_
          refine TL.move rfl rfl ?_
          refine TL.guardNo (d := 16) rfl rfl rfl rfl rfl ?_
          refine TL.guardNo (d := 16) rfl rfl rfl rfl rfl ?_
          refine TL.guardNo (d := 16) rfl rfl rfl rfl rfl ?_
          refine TL.guardNo (d := 16) rfl rfl rfl rfl rfl ?_
          refine TL.pickF rfl rfl rfl rfl ?_
          refine TL.move rfl rfl ?_
          refine TL.guardNo (d := 22) rfl rfl rfl rfl rfl ?_
          refine TL.guardNo (d := 22) rfl rfl rfl rfl rfl ?_
          refine TL.guardNo (d := 22) rfl rfl rfl rfl rfl ?_
          refine TL.guardNo (d := 22) rfl rfl rfl rfl rfl ?_
          refine TL.pickF rfl rfl rfl rfl ?_
          refine TL.move rfl rfl ?_
          refine TL.guardNo (d := 28) rfl rfl rfl rfl rfl ?_
          refine TL.guardNo (d := 28) rfl rfl rfl rfl rfl ?_
          refine TL.guardNo (d := 28) rfl rfl rfl rfl rfl ?_
          refine TL.pickF rfl rfl rfl rfl ?_
          refine TL.move rfl rfl ?_
          refine TL.guardNo (d := 33) rfl rfl rfl rfl rfl ?_
          refine TL.guardNo (d := 33) rfl rfl rfl rfl rfl ?_
          refine TL.guardNo (d := 33) rfl rfl rfl rfl rfl ?_
          refine TL.pickF rfl rfl rfl rfl ?_
          refine TL.move rfl rfl ?_
          refine TL.guardNo (d := 38) rfl rfl rfl rfl rfl ?_
          refine TL.guardNo (d := 38) rfl rfl rfl rfl rfl ?_
          refine TL.guardNo (d := 38) rfl rfl rfl rfl rfl ?_
          refine TL.pickF rfl rfl rfl rfl ?_
          refine TL.assign rfl rfl ?_
          refine TL.done ?_
          exact hK1  _ _ (by repeat (first | exact trivial | refine ⟨rfl, ?_⟩ | refine ⟨congrArg (fun b => some (Value.bool b)) (by first | exact (decide_eq_true (by grind)).symm | exact (decide_eq_false (by grind)).symm | exact decide_eq_decide.2 (by grind) | exact decide_eq_true (by grind) | exact decide_eq_false (by grind) | (exfalso; grind)), ?_⟩)) (hc1)
      ·
        refine TL.pickT rfl rfl rfl rfl ?_
        refine TL.move rfl rfl ?_
        refine TL.guardNo (d := 11) rfl rfl rfl rfl rfl ?_
        refine TL.guardNo (d := 11) rfl rfl rfl rfl rfl ?_
        refine TL.guardNo (d := 11) rfl rfl rfl rfl rfl ?_
        refine TL.pickF rfl rfl rfl rfl ?_
        refine TL.move rfl rfl ?_
        refine TL.guardNo (d := 16) rfl rfl rfl rfl rfl ?_
        refine TL.guardNo (d := 16) rfl rfl rfl rfl rfl ?_
        refine TL.guardNo (d := 16) rfl rfl rfl rfl rfl ?_
        refine TL.guardNo (d := 16) rfl rfl rfl rfl rfl ?_
        refine TL.pickF rfl rfl rfl rfl ?_
        refine TL.move rfl rfl ?_
        refine TL.guardNo (d := 22) rfl rfl rfl rfl rfl ?_
        refine TL.guardNo (d := 22) rfl rfl rfl rfl rfl ?_
        refine TL.guardNo (d := 22) rfl rfl rfl rfl rfl ?_
        refine TL.guardNo (d := 22) rfl rfl rfl rfl rfl ?_
        refine TL.pickF rfl rfl rfl rfl ?_
        refine TL.move rfl rfl ?_
        refine TL.guardNo (d := 28) rfl rfl rfl rfl rfl ?_
        refine TL.guardNo (d := 28) rfl rfl rfl rfl rfl ?_
        refine TL.guardNo (d := 28) rfl rfl rfl rfl rfl ?_
        refine TL.pickF rfl rfl rfl rfl ?_
        refine TL.move rfl rfl ?_
        refine TL.guardNo (d := 33) rfl rfl rfl rfl rfl ?_
        refine TL.guardNo (d := 33) rfl rfl rfl rfl rfl ?_
        refine TL.guardNo (d := 33) rfl rfl rfl rfl rfl ?_
        refine TL.pickF rfl rfl rfl rfl ?_
        refine TL.move rfl rfl ?_
        refine TL.guardNo (d := 38) rfl rfl rfl rfl rfl ?_
        refine TL.guardNo (d := 38) rfl rfl rfl rfl rfl ?_
        refine TL.guardNo (d := 38) rfl rfl rfl rfl rfl ?_
        refine TL.pickF rfl rfl rfl rfl ?_
        refine TL.assign rfl rfl ?_
        refine TL.done ?_
        exact hK1  _ _ (by repeat (first | exact trivial | refine ⟨rfl, ?_⟩ | refine ⟨congrArg (fun b => some (Value.bool b)) (by first | exact (decide_eq_true (by grind)).symm | exact (decide_eq_false (by grind)).symm | exact decide_eq_decide.2 (by grind) | exact decide_eq_true (by grind) | exact decide_eq_false (by grind) | (exfalso; grind)), ?_⟩)) (hc1)
    ·
      refine TL.move rfl rfl ?_
      refine TL.guardNo (d := 6) rfl rfl rfl rfl rfl ?_
      refine TL.guardNo (d := 6) rfl rfl rfl rfl rfl ?_
      refine TL.guardNo (d := 6) rfl rfl rfl rfl rfl ?_
      refine TL.pickF rfl rfl rfl rfl ?_
      refine TL.move rfl rfl ?_
      refine TL.guardNo (d := 11) rfl rfl rfl rfl rfl ?_
      refine TL.guardNo (d := 11) rfl rfl rfl rfl rfl ?_
      refine TL.guardNo (d := 11) rfl rfl rfl rfl rfl ?_
      refine TL.pickF rfl rfl rfl rfl ?_
      refine TL.move rfl rfl ?_
      refine TL.guardNo (d := 16) rfl rfl rfl rfl rfl ?_
      refine TL.guardNo (d := 16) rfl rfl rfl rfl rfl ?_
      refine TL.guardNo (d := 16) rfl rfl rfl rfl rfl ?_
      refine TL.guardNo (d := 16) rfl rfl rfl rfl rfl ?_
      refine TL.pickF rfl rfl rfl rfl ?_
      refine TL.move rfl rfl ?_
      refine TL.guardNo (d := 22) rfl rfl rfl rfl rfl ?_
      refine TL.guardNo (d := 22) rfl rfl rfl rfl rfl ?_
      refine TL.guardNo (d := 22) rfl rfl rfl rfl rfl ?_
      refine TL.guardNo (d := 22) rfl rfl rfl rfl rfl ?_
      refine TL.pickF rfl rfl rfl rfl ?_
      refine TL.move rfl rfl ?_
      refine TL.guardNo (d := 28) rfl rfl rfl rfl rfl ?_
      refine TL.guardNo (d := 28) rfl rfl rfl rfl rfl ?_
      refine TL.guardNo (d := 28) rfl rfl rfl rfl rfl ?_
      refine TL.pickF rfl rfl rfl rfl ?_
      refine TL.move rfl rfl ?_
      refine TL.guardNo (d := 33) rfl rfl rfl rfl rfl ?_
      refine TL.guardNo (d := 33) rfl rfl rfl rfl rfl ?_
      refine TL.guardNo (d := 33) rfl rfl rfl rfl rfl ?_
      refine TL.pickF rfl rfl rfl rfl ?_
      refine TL.move rfl rfl ?_
      refine TL.guardNo (d := 38) rfl rfl rfl rfl rfl ?_
      refine TL.guardNo (d := 38) rfl rfl rfl rfl rfl ?_
      refine TL.guardNo (d := 38) rfl rfl rfl rfl rfl ?_
      refine TL.pickF rfl rfl rfl rfl ?_
      refine TL.assign rfl rfl ?_
      refine TL.done ?_
      exact hK1  _ _ (by repeat (first | exact trivial | refine ⟨rfl, ?_⟩ | refine ⟨congrArg (fun b => some (Value.bool b)) (by first | exact (decide_eq_true (by grind)).symm | exact (decide_eq_false (by grind)).symm | exact decide_eq_decide.2 (by grind) | exact decide_eq_true (by grind) | exact decide_eq_false (by grind) | (exfalso; grind)), ?_⟩)) (hc1)
  ·
    refine TC.ret ?_
    refine Ends.ret [2] rfl rfl ?_
    exact ⟨rfl, hH⟩

theorem fn34 (r : Audit.Record) (hr : r.hash.length ≤ 100000) (w : World) : Rets Try.prog 34 #[.agg (cl r).toArray] w (fun v w' => v = .bool (decide (Audit.may r)) ∧ Ch [] w w') := by
  have hiff : Audit.may r ↔ (0 ≤ r.seq ∧ 0 ≤ r.at_ ∧ r.at_ ≤ 1099511627776 ∧ (r.user.length : Int) ≤ 32 ∧ (r.deed.length : Int) ≤ 16384 ∧ 100 ≤ r.outcome ∧ r.outcome ≤ 599 ∧ Audit.digest r.hash) := by
    unfold Audit.may; constructor <;> (rintro ⟨a1, a2, a3, a4, a5, a6, a7, a8⟩; exact ⟨a1, a2, a3, by omega, by omega, a6, a7, a8⟩)
  refine Rets.of (n := 45) (vs := [_]) Try.func34 rfl rfl rfl ?_
  refine TC.seq ?_
  refine TC.region ?_
  refine TL.box rfl rfl (fun w1 hb1 hc1 hz1 => ?_)
  refine TL.assign rfl rfl ?_
  refine TL.done ?_
  refine Thn.go ?_
  refine TC.cut0 ([(1, .pointer (some ⟨w.heap.size, 0, none⟩)), (3, .bool (decide (0 ≤ r.seq ∧ 0 ≤ r.at_ ∧ r.at_ ≤ 1099511627776 ∧ 100 ≤ r.outcome ∧ r.outcome ≤ 599)))]) (fun w' => w' = w1) (fun K1 hK1 => ?_) (fun w' hH => ?_)
  ·
    refine TC.region ?_
    refine TL.fieldAddr fd32k0 rfl rfl ?_
    refine TL.load pl3 rfl (hb1.cell _) rfl ?_
    refine TL.geq rfl rfl rfl ?_
    refine TL.em (fun e6 => ?_) (fun e6 => ?_)
    ·
      refine TL.move rfl rfl ?_
      refine TL.guardYes (d := 7) rfl rfl rfl ?_
      refine TL.fieldAddr fd32k1 rfl rfl ?_
      refine TL.guardYes (d := 7) rfl rfl rfl ?_
      refine TL.load pl3 rfl (hb1.cell _) rfl ?_
      refine TL.guardYes (d := 7) rfl rfl rfl ?_
      refine TL.geq rfl rfl rfl ?_
      refine TL.em (fun e10 => ?_) (fun e10 => ?_)
      ·
        refine TL.pickT rfl rfl rfl rfl ?_
        refine TL.move rfl rfl ?_
        refine TL.guardYes (d := 12) rfl rfl rfl ?_
        refine TL.fieldAddr fd32k1 rfl rfl ?_
        refine TL.guardYes (d := 12) rfl rfl rfl ?_
        refine TL.load pl3 rfl (hb1.cell _) rfl ?_
        refine TL.guardYes (d := 12) rfl rfl rfl ?_
        refine TL.leq rfl rfl rfl ?_
        refine TL.em (fun e15 => ?_) (fun e15 => ?_)
        ·
          refine TL.pickT rfl rfl rfl rfl ?_
          refine TL.move rfl rfl ?_
          refine TL.guardYes (d := 17) rfl rfl rfl ?_
          refine TL.fieldAddr fd32k4 rfl rfl ?_
          refine TL.guardYes (d := 17) rfl rfl rfl ?_
          refine TL.load pl3 rfl (hb1.cell _) rfl ?_
          refine TL.guardYes (d := 17) rfl rfl rfl ?_
          refine TL.geq rfl rfl rfl ?_
          refine TL.em (fun e20 => ?_) (fun e20 => ?_)
          ·
            refine TL.pickT rfl rfl rfl rfl ?_
            refine TL.move rfl rfl ?_
            refine TL.guardYes (d := 22) rfl rfl rfl ?_
            refine TL.fieldAddr fd32k4 rfl rfl ?_
            refine TL.guardYes (d := 22) rfl rfl rfl ?_
            refine TL.load pl3 rfl (hb1.cell _) rfl ?_
            refine TL.guardYes (d := 22) rfl rfl rfl ?_
            refine TL.leq rfl rfl rfl ?_
            refine TL.pickT rfl rfl rfl rfl ?_
            refine TL.assign rfl rfl ?_
            refine TL.done ?_
            exact hK1  _ _ (by repeat (first | exact trivial | refine ⟨rfl, ?_⟩ | refine ⟨congrArg (fun b => some (Value.bool b)) (by first | exact (decide_eq_true (by grind)).symm | exact (decide_eq_false (by grind)).symm | exact decide_eq_decide.2 (by grind) | exact decide_eq_true (by grind) | exact decide_eq_false (by grind) | (exfalso; grind)), ?_⟩)) (rfl)
          ·
            refine TL.pickT rfl rfl rfl rfl ?_
            refine TL.move rfl rfl ?_
            refine TL.guardNo (d := 22) rfl rfl rfl rfl rfl ?_
            refine TL.guardNo (d := 22) rfl rfl rfl rfl rfl ?_
            refine TL.guardNo (d := 22) rfl rfl rfl rfl rfl ?_
            refine TL.pickF rfl rfl rfl rfl ?_
            refine TL.assign rfl rfl ?_
            refine TL.done ?_
            exact hK1  _ _ (by repeat (first | exact trivial | refine ⟨rfl, ?_⟩ | refine ⟨congrArg (fun b => some (Value.bool b)) (by first | exact (decide_eq_true (by grind)).symm | exact (decide_eq_false (by grind)).symm | exact decide_eq_decide.2 (by grind) | exact decide_eq_true (by grind) | exact decide_eq_false (by grind) | (exfalso; grind)), ?_⟩)) (rfl)
        ·
          refine TL.pickT rfl rfl rfl rfl ?_
          refine TL.move rfl rfl ?_
          refine TL.guardNo (d := 17) rfl rfl rfl rfl rfl ?_
          refine TL.guardNo (d := 17) rfl rfl rfl rfl rfl ?_
          refine TL.guardNo (d := 17) rfl rfl rfl rfl rfl ?_
          refine TL.pickF rfl rfl rfl rfl ?_
          refine TL.move rfl rfl ?_
          refine TL.guardNo (d := 22) rfl rfl rfl rfl rfl ?_
          refine TL.guardNo (d := 22) rfl rfl rfl rfl rfl ?_
          refine TL.guardNo (d := 22) rfl rfl rfl rfl rfl ?_
          refine TL.pickF rfl rfl rfl rfl ?_
          refine TL.assign rfl rfl ?_
          refine TL.done ?_
          exact hK1  _ _ (by repeat (first | exact trivial | refine ⟨rfl, ?_⟩ | refine ⟨congrArg (fun b => some (Value.bool b)) (by first | exact (decide_eq_true (by grind)).symm | exact (decide_eq_false (by grind)).symm | exact decide_eq_decide.2 (by grind) | exact decide_eq_true (by grind) | exact decide_eq_false (by grind) | (exfalso; grind)), ?_⟩)) (rfl)
      ·
        refine TL.pickT rfl rfl rfl rfl ?_
        refine TL.move rfl rfl ?_
        refine TL.guardNo (d := 12) rfl rfl rfl rfl rfl ?_
        refine TL.guardNo (d := 12) rfl rfl rfl rfl rfl ?_
        refine TL.guardNo (d := 12) rfl rfl rfl rfl rfl ?_
        refine TL.pickF rfl rfl rfl rfl ?_
        refine TL.move rfl rfl ?_
        refine TL.guardNo (d := 17) rfl rfl rfl rfl rfl ?_
        refine TL.guardNo (d := 17) rfl rfl rfl rfl rfl ?_
        refine TL.guardNo (d := 17) rfl rfl rfl rfl rfl ?_
        refine TL.pickF rfl rfl rfl rfl ?_
        refine TL.move rfl rfl ?_
        refine TL.guardNo (d := 22) rfl rfl rfl rfl rfl ?_
        refine TL.guardNo (d := 22) rfl rfl rfl rfl rfl ?_
        refine TL.guardNo (d := 22) rfl rfl rfl rfl rfl ?_
        refine TL.pickF rfl rfl rfl rfl ?_
        refine TL.assign rfl rfl ?_
        refine TL.done ?_
        exact hK1  _ _ (by repeat (first | exact trivial | refine ⟨rfl, ?_⟩ | refine ⟨congrArg (fun b => some (Value.bool b)) (by first | exact (decide_eq_true (by grind)).symm | exact (decide_eq_false (by grind)).symm | exact decide_eq_decide.2 (by grind) | exact decide_eq_true (by grind) | exact decide_eq_false (by grind) | (exfalso; grind)), ?_⟩)) (rfl)
    ·
      refine TL.move rfl rfl ?_
      refine TL.guardNo (d := 7) rfl rfl rfl rfl rfl ?_
      refine TL.guardNo (d := 7) rfl rfl rfl rfl rfl ?_
      refine TL.guardNo (d := 7) rfl rfl rfl rfl rfl ?_
      refine TL.pickF rfl rfl rfl rfl ?_
      refine TL.move rfl rfl ?_
      refine TL.guardNo (d := 12) rfl rfl rfl rfl rfl ?_
      refine TL.guardNo (d := 12) rfl rfl rfl rfl rfl ?_
      refine TL.guardNo (d := 12) rfl rfl rfl rfl rfl ?_
      refine TL.pickF rfl rfl rfl rfl ?_
      refine TL.move rfl rfl ?_
      refine TL.guardNo (d := 17) rfl rfl rfl rfl rfl ?_
      refine TL.guardNo (d := 17) rfl rfl rfl rfl rfl ?_
      refine TL.guardNo (d := 17) rfl rfl rfl rfl rfl ?_
      refine TL.pickF rfl rfl rfl rfl ?_
      refine TL.move rfl rfl ?_
      refine TL.guardNo (d := 22) rfl rfl rfl rfl rfl ?_
      refine TL.guardNo (d := 22) rfl rfl rfl rfl rfl ?_
      refine TL.guardNo (d := 22) rfl rfl rfl rfl rfl ?_
      refine TL.pickF rfl rfl rfl rfl ?_
      refine TL.assign rfl rfl ?_
      refine TL.done ?_
      exact hK1  _ _ (by repeat (first | exact trivial | refine ⟨rfl, ?_⟩ | refine ⟨congrArg (fun b => some (Value.bool b)) (by first | exact (decide_eq_true (by grind)).symm | exact (decide_eq_false (by grind)).symm | exact decide_eq_decide.2 (by grind) | exact decide_eq_true (by grind) | exact decide_eq_false (by grind) | (exfalso; grind)), ?_⟩)) (rfl)
  ·
    subst hH
    refine TC.cut0 ([(2, .bool (decide (Audit.may r)))]) (fun w' => Ch [] w w') (fun K6 hK6 => ?_) (fun w' hH => ?_)
    ·
      refine TC.region ?_
      refine TL.move rfl rfl ?_
      refine TL.emB (fun e27 => ?_) (fun e27 => ?_)
      ·
        refine TL.move rfl rfl ?_
        refine TL.guardYes (d := 28) rfl rfl rfl ?_
        refine TL.fieldAddr fd32k2 rfl rfl ?_
        refine TL.guardYes (d := 28) rfl rfl rfl ?_
        refine TL.load pl9 rfl (hb1.cell _) rfl ?_
        refine TL.guardYes (d := 28) rfl rfl rfl ?_
        refine TL.lenStr Try.underlying9 rfl rfl ?_
        refine TL.guardYes (d := 28) rfl rfl rfl ?_
        refine TL.leq rfl rfl rfl ?_
        refine TL.em (fun e32 => ?_) (fun e32 => ?_)
        ·
          refine TL.pickT rfl rfl rfl rfl ?_
          refine TL.move rfl rfl ?_
          refine TL.guardYes (d := 34) rfl rfl rfl ?_
          refine TL.fieldAddr fd32k3 rfl rfl ?_
          refine TL.guardYes (d := 34) rfl rfl rfl ?_
          refine TL.load pl9 rfl (hb1.cell _) rfl ?_
          refine TL.guardYes (d := 34) rfl rfl rfl ?_
          refine TL.lenStr Try.underlying9 rfl rfl ?_
          refine TL.guardYes (d := 34) rfl rfl rfl ?_
          refine TL.leq rfl rfl rfl ?_
          refine TL.em (fun e38 => ?_) (fun e38 => ?_)
          ·
            refine TL.pickT rfl rfl rfl rfl ?_
            refine TL.move rfl rfl ?_
            refine TL.guardYes (d := 40) rfl rfl rfl ?_
            refine TL.fieldAddr fd32k5 rfl rfl ?_
            refine TL.guardYes (d := 40) rfl rfl rfl ?_
            refine TL.load pl9 rfl (hb1.cell _) rfl ?_
            refine TL.guardYes (d := 40) rfl rfl rfl ?_
            refine TL.call can35 rfl rfl (fn35 r.hash hr _) (fun v43 w43 hr43 => ?_)
            obtain ⟨rfl, hc43⟩ := hr43
            refine TL.pickT rfl rfl rfl rfl ?_
            refine TL.assign rfl rfl ?_
            refine TL.done ?_
            exact hK6  _ _ (by repeat (first | exact trivial | refine ⟨rfl, ?_⟩ | refine ⟨congrArg (fun b => some (Value.bool b)) (by first | exact (decide_eq_true (by grind)).symm | exact (decide_eq_false (by grind)).symm | exact decide_eq_decide.2 (by grind) | exact decide_eq_true (by grind) | exact decide_eq_false (by grind) | (exfalso; grind)), ?_⟩)) (hc1.trans0 hc43)
          ·
            refine TL.pickT rfl rfl rfl rfl ?_
            refine TL.move rfl rfl ?_
            refine TL.guardNo (d := 40) rfl rfl rfl rfl rfl ?_
            refine TL.guardNo (d := 40) rfl rfl rfl rfl rfl ?_
            refine TL.guardNo (d := 40) rfl rfl rfl rfl rfl ?_
            refine TL.pickF rfl rfl rfl rfl ?_
            refine TL.assign rfl rfl ?_
            refine TL.done ?_
            exact hK6  _ _ (by repeat (first | exact trivial | refine ⟨rfl, ?_⟩ | refine ⟨congrArg (fun b => some (Value.bool b)) (by first | exact (decide_eq_true (by grind)).symm | exact (decide_eq_false (by grind)).symm | exact decide_eq_decide.2 (by grind) | exact decide_eq_true (by grind) | exact decide_eq_false (by grind) | (exfalso; grind)), ?_⟩)) (hc1)
        ·
          refine TL.pickT rfl rfl rfl rfl ?_
          refine TL.move rfl rfl ?_
          refine TL.guardNo (d := 34) rfl rfl rfl rfl rfl ?_
          refine TL.guardNo (d := 34) rfl rfl rfl rfl rfl ?_
          refine TL.guardNo (d := 34) rfl rfl rfl rfl rfl ?_
          refine TL.guardNo (d := 34) rfl rfl rfl rfl rfl ?_
          refine TL.pickF rfl rfl rfl rfl ?_
          refine TL.move rfl rfl ?_
          refine TL.guardNo (d := 40) rfl rfl rfl rfl rfl ?_
          refine TL.guardNo (d := 40) rfl rfl rfl rfl rfl ?_
          refine TL.guardNo (d := 40) rfl rfl rfl rfl rfl ?_
          refine TL.pickF rfl rfl rfl rfl ?_
          refine TL.assign rfl rfl ?_
          refine TL.done ?_
          exact hK6  _ _ (by repeat (first | exact trivial | refine ⟨rfl, ?_⟩ | refine ⟨congrArg (fun b => some (Value.bool b)) (by first | exact (decide_eq_true (by grind)).symm | exact (decide_eq_false (by grind)).symm | exact decide_eq_decide.2 (by grind) | exact decide_eq_true (by grind) | exact decide_eq_false (by grind) | (exfalso; grind)), ?_⟩)) (hc1)
      ·
        refine TL.move rfl rfl ?_
        refine TL.guardNo (d := 28) rfl rfl rfl rfl rfl ?_
        refine TL.guardNo (d := 28) rfl rfl rfl rfl rfl ?_
        refine TL.guardNo (d := 28) rfl rfl rfl rfl rfl ?_
        refine TL.guardNo (d := 28) rfl rfl rfl rfl rfl ?_
        refine TL.pickF rfl rfl rfl rfl ?_
        refine TL.move rfl rfl ?_
        refine TL.guardNo (d := 34) rfl rfl rfl rfl rfl ?_
        refine TL.guardNo (d := 34) rfl rfl rfl rfl rfl ?_
        refine TL.guardNo (d := 34) rfl rfl rfl rfl rfl ?_
        refine TL.guardNo (d := 34) rfl rfl rfl rfl rfl ?_
        refine TL.pickF rfl rfl rfl rfl ?_
        refine TL.move rfl rfl ?_
        refine TL.guardNo (d := 40) rfl rfl rfl rfl rfl ?_
        refine TL.guardNo (d := 40) rfl rfl rfl rfl rfl ?_
        refine TL.guardNo (d := 40) rfl rfl rfl rfl rfl ?_
        refine TL.pickF rfl rfl rfl rfl ?_
        refine TL.assign rfl rfl ?_
        refine TL.done ?_
        exact hK6  _ _ (by repeat (first | exact trivial | refine ⟨rfl, ?_⟩ | refine ⟨congrArg (fun b => some (Value.bool b)) (by first | exact (decide_eq_true (by grind)).symm | exact (decide_eq_false (by grind)).symm | exact decide_eq_decide.2 (by grind) | exact decide_eq_true (by grind) | exact decide_eq_false (by grind) | (exfalso; grind)), ?_⟩)) (hc1)
    ·
      refine TC.ret ?_
      refine Ends.ret [2] rfl rfl ?_
      exact ⟨rfl, hH⟩

theorem fn33 (r : Audit.Record) (b : List UInt8) (h1 : r.user.length ≤ 100000) (h2 : r.deed.length ≤ 100000) (h3 : b.length ≤ 100000) (w : World) : Rets Try.prog 33 #[.agg (cl r).toArray, str b] w (fun v w' => Own w' w.heap.size 5 1 v (Audit.bytesR r b).length ((Audit.bytesR r b).map u8) ∧ Ch [] w w') := by
  have hmm : maxLen = 9223372036854775807 := rfl
  have e1 := Audit.text_len _ h1
  have e2 := Audit.text_len _ h2
  have e3 := Audit.text_len _ h3
  obtain ⟨L, hL⟩ : ∃ L : List Int, L = [r.seq, r.at_, r.outcome] := ⟨_, rfl⟩
  have hLl : L.length = 3 := by rw [hL]; rfl
  have hPl : ∀ k, k ≤ 3 → ((L.take k).flatMap (fun n => Bits.put (Audit.u64i n))).length = 8 * k := by
    intro k hk; rw [hL]; have : k = 0 ∨ k = 1 ∨ k = 2 ∨ k = 3 := by omega
    rcases this with rfl | rfl | rfl | rfl <;> simp [Bits.put_len]
  refine Rets.of (n := 38) (vs := [_, _]) Try.func33 rfl rfl rfl ?_
  refine TC.seq ?_
  refine TC.region ?_
  refine TL.box rfl rfl (fun w2 hb2 hc2 hz2 => ?_)
  refine TL.assign rfl rfl ?_
  refine TL.done ?_
  refine Thn.go ?_
  refine TC.seq ?_
  refine TC.region ?_
  refine TL.move rfl rfl ?_
  refine TL.call can46 rfl rfl (fn46 b (by omega) w2) (fun v9 w9 hr9 => ?_)
  obtain ⟨hv9, hc9⟩ := hr9
  have hbx := hb2.ch0 hc9
  refine TL.assign rfl rfl ?_
  refine TL.done ?_
  refine Thn.go ?_
  refine TC.seq ?_
  refine TC.seq ?_
  refine TC.region ?_
  refine TL.fieldAddr fd32k0 rfl rfl ?_
  refine TL.load pl3 rfl ((show _ = some (Value.int .i64 r.seq) from hbx.cell _)) rfl ?_
  refine TL.fieldAddr fd32k1 rfl rfl ?_
  refine TL.load pl3 rfl ((show _ = some (Value.int .i64 r.at_) from hbx.cell _)) rfl ?_
  refine TL.fieldAddr fd32k4 rfl rfl ?_
  refine TL.load pl3 rfl ((show _ = some (Value.int .i64 r.outcome) from hbx.cell _)) rfl ?_
  refine TL.buildSlice [.tmp 11, .tmp 13, .tmp 15] sl74 rfl rfl rfl (by decide) (by first | simp [Value.cells]; done | simp [Value.cells, cl_len]; done) rfl (fun w16 hb16 hc16 hz16 => ?_)
  have hI : Rd w16 (.slice (some ⟨w9.heap.size, 0, none⟩) 3 3) 1 3 (L.map (Value.int .i64)) := by rw [hL]; exact Rd.ofFlat (sz := 1) (m := 3) hb16 (by simp [Value.cells]) rfl (by decide)
  have z9 := hc9.size
  refine TL.lenSlice Try.underlying74 rfl rfl ?_
  refine TL.move rfl rfl ?_
  refine TL.done ?_
  refine Thn.go ?_
  refine TC.block ?_
  refine TC.loop2 (fun (k : Nat) (v : Value) => [(2, .pointer (some ⟨w.heap.size, 0, none⟩)), (16, .slice (some ⟨w9.heap.size, 0, none⟩) 3 3), (17, .int .i64 3), (18, .int .i64 (k : Int)), (5, v)]) (fun k v w' => k ≤ 3 ∧ Own w' w2.heap.size 5 1 v ((Bits.text b).length + 8 * k) ((Bits.text b ++ (L.take k).flatMap (fun n => Bits.put (Audit.u64i n))).map u8) ∧ w9.heap.size ∉ blk v ∧ Rd w' (.slice (some ⟨w9.heap.size, 0, none⟩) 3 3) 1 3 (L.map (Value.int .i64)) ∧ Ch [] w2 w' ∧ w9.heap.size < w'.heap.size) (fun k _ => 3 - k) 0 v9 (by repeat (first | exact trivial | refine ⟨rfl, ?_⟩)) (⟨by omega, by simpa using hv9.ch0 hc16, hv9.notlast (Nat.le_refl _), hI, hc9.trans0 hc16, by omega⟩) (fun k v w' hH => ?_)
  obtain ⟨hk, hown, hno, hI, hch, hlt⟩ := hH
  have z' := hch.size
  refine TC.seq ?_
  refine TC.region ?_
  refine TL.lss rfl rfl rfl ?_
  refine TL.done ?_
  refine Thn.go ?_
  refine TC.seq ?_
  refine TC.condP rfl (fun h1 => ?_) (fun h1 => ?_)
  ·
    have hk3 : k < 3 := by omega
    refine TC.skip ?_
    refine Thn.go ?_
    refine TC.seq ?_
    refine TC.block ?_
    refine TC.seq ?_
    refine TC.region ?_
    refine TL.indexAddr (k) sl74 rfl rfl (by first | rfl | omega) (by omega) rfl ?_
    refine TL.load pl3 rfl (hI.eltIn (f := Value.int .i64) (by omega)) rfl ?_
    refine TL.assign rfl rfl ?_
    refine TL.done ?_
    refine Thn.go ?_
    refine TC.region ?_
    refine TL.move rfl rfl ?_
    refine TL.move rfl rfl ?_
    refine TL.convI_u64 Try.underlying3 Try.underlying76 rfl rfl ?_
    refine TL.call can47 rfl rfl (fn47 (Audit.u64i (L[k]'(by omega))) w') (fun v25 w25 hr25 => ?_)
    obtain ⟨b25, rfl, hg25, hb25, hc25⟩ := hr25
    have z25 := hc25.size
    refine TL.appendD sl50 rfl rfl rfl (hown.ch0 hc25) (News.ofRd Try.underlying50 (m := 8) (Rd.ofRow (m := 8) hb25 (by rw [List.length_map, Bits.put_len]) (by decide)) (one_u8 _)) (by omega) (by omega) (by omega) (fun v26 w26 hv26 hc26 hn26 => ?_)
    have z26 := hc26.size
    refine TL.assign rfl rfl ?_
    refine TL.done ?_
    refine Blk.go ?_
    refine Thn.go ?_
    refine TC.region ?_
    refine TL.add_i64 rfl rfl (by omega) (by omega) rfl ?_
    refine TL.move rfl rfl ?_
    refine TL.done ?_
    refine Lp.go ((k + 1, v26)) (by repeat (first | exact trivial | refine ⟨rfl, ?_⟩)) ?_ (by first | omega | (dsimp only; omega))
    refine ⟨by show k + 1 ≤ 3; omega, ?_, notin_next hn26 hno (by omega), (hI.ch0 hc25).ch hc26 (by intro g hg; simp [Value.ownBlock] at hg; subst hg; exact hno), (hown.ch0 hc25).thenCh (hch.trans0 hc25) hc26, by show w9.heap.size < w26.heap.size; omega⟩
    show Own w26 _ 5 1 v26 ((Bits.text b).length + 8 * (k + 1)) ((Bits.text b ++ (L.take (k + 1)).flatMap (fun n => Bits.put (Audit.u64i n))).map u8)
    rw [flat_next _ L (by omega), ← List.append_assoc, List.map_append]
    exact hv26
  ·
    have hk3 : k = 3 := by omega
    subst hk3
    refine TC.exit ?_
    refine Thn.exit ?_
    refine Lp.exit ?_
    refine Blk.hit ?_
    refine Thn.go ?_
    refine TC.seq ?_
    refine TC.region ?_
    refine TL.move rfl rfl ?_
    refine TL.fieldAddr fd32k2 rfl rfl ?_
    refine TL.load pl9 rfl ((hb2.ch0 hch).cell _) rfl ?_
    refine TL.call can46 rfl rfl (fn46 r.user (by omega) w') (fun v31 w31 hr31 => ?_)
    obtain ⟨hv31, hc31⟩ := hr31
    have z31 := hc31.size
    refine TL.append sl50 rfl rfl rfl (hown.ch0 hc31) (News.ofRd Try.underlying50 (Rd.ofOwn hv31) (one_u8 _)) (by omega) (by omega) (by omega) (fun v32 w32 hv32 hc32 _ => ?_)
    have q32 := (hown.ch0 hc31).thenCh (hch.trans0 hc31) hc32
    have z32 := q32.size
    refine TL.assign rfl rfl ?_
    refine TL.done ?_
    refine Thn.go ?_
    refine TC.seq ?_
    refine TC.region ?_
    refine TL.move rfl rfl ?_
    refine TL.fieldAddr fd32k3 rfl rfl ?_
    refine TL.load pl9 rfl ((hb2.ch0 q32).cell _) rfl ?_
    refine TL.call can46 rfl rfl (fn46 r.deed (by omega) w32) (fun v36 w36 hr36 => ?_)
    obtain ⟨hv36, hc36⟩ := hr36
    have z36 := hc36.size
    refine TL.append sl50 rfl rfl rfl (hv32.ch0 hc36) (News.ofRd Try.underlying50 (Rd.ofOwn hv36) (one_u8 _)) (by omega) (by omega) (by omega) (fun v37 w37 hv37 hc37 _ => ?_)
    refine TL.assign rfl rfl ?_
    refine TL.done ?_
    refine Thn.go ?_
    refine TC.ret ?_
    refine Ends.ret [4] rfl rfl ?_
    refine ⟨?_, hc2.trans0 ((hv32.ch0 hc36).thenCh (q32.trans0 hc36) hc37)⟩
    refine Own.base (Own.bytes (Audit.bytesR r b) hv37 (by simp only [Audit.bytesR, List.length_append, Bits.put_len]) ?_) hc2.size
    rw [hL]; simp [Audit.bytesR]

theorem fn36 (r : Audit.Record) (b : List UInt8) (h1 : r.user.length ≤ 100000) (h2 : r.deed.length ≤ 100000) (h3 : b.length ≤ 100000) (w : World) : Rets Try.prog 36 #[.agg (cl r).toArray, str b] w (fun v w' => Own w' w.heap.size 5 1 v (Audit.bytesR r b).length ((Audit.bytesR r b).map u8) ∧ Ch [] w w') := by
  have hmm : maxLen = 9223372036854775807 := rfl
  have e1 := Audit.text_len _ h1
  have e2 := Audit.text_len _ h2
  have e3 := Audit.text_len _ h3
  refine Rets.of (n := 38) (vs := [_, _]) Try.func36 rfl rfl rfl ?_
  refine TC.seq ?_
  refine TC.region ?_
  refine TL.box rfl rfl (fun w2 hb2 hc2 hz2 => ?_)
  refine TL.assign rfl rfl ?_
  refine TL.done ?_
  refine Thn.go ?_
  refine TC.seq ?_
  refine TC.region ?_
  refine TL.assign rfl rfl ?_
  refine TL.done ?_
  refine Thn.go ?_
  refine TC.seq ?_
  refine TC.region ?_
  refine TL.move rfl rfl ?_
  refine TL.move rfl rfl ?_
  refine TL.call can49 rfl rfl (fn49 b (by omega) w2) (fun v8 w8 hr8 => ?_)
  obtain ⟨hv8, hc8⟩ := hr8
  have z8 := hc8.size
  refine TL.append sl50 rfl rfl rfl (World.ownsRow_nil _ w2.heap.size _ _) (News.ofRd Try.underlying50 (Rd.ofOwn hv8) (one_u8 _)) (by omega) (by omega) (by omega) (fun v9 w9 hv9 hc9 _ => ?_)
  have q9 : Ch [] w2 w9 := hc8.trans0 hc9
  have z9 := q9.size
  refine TL.assign rfl rfl ?_
  refine TL.done ?_
  refine Thn.go ?_
  refine TC.seq ?_
  refine TC.region ?_
  refine TL.move rfl rfl ?_
  refine TL.fieldAddr fd32k0 rfl rfl ?_
  refine TL.load pl3 rfl ((hb2.ch0 q9).cell _) rfl ?_
  refine TL.convI_u64 Try.underlying3 Try.underlying76 rfl rfl ?_
  refine TL.call can50 rfl rfl (fn50 (Audit.u64i r.seq) w9) (fun v14 w14 hr14 => ?_)
  obtain ⟨hv14, hc14⟩ := hr14
  have p14 := Bits.put_len (Audit.u64i r.seq)
  have z14 := hc14.size
  refine TL.append sl50 rfl rfl rfl (hv9.ch0 hc14) (News.ofRd Try.underlying50 (Rd.ofOwn hv14) (one_u8 _)) (by omega) (by omega) (by omega) (fun v15 w15 hv15 hc15 _ => ?_)
  have q15 := (hv9.ch0 hc14).thenCh (q9.trans0 hc14) hc15
  have z15 := q15.size
  refine TL.assign rfl rfl ?_
  refine TL.done ?_
  refine Thn.go ?_
  refine TC.seq ?_
  refine TC.region ?_
  refine TL.move rfl rfl ?_
  refine TL.fieldAddr fd32k1 rfl rfl ?_
  refine TL.load pl3 rfl ((hb2.ch0 q15).cell _) rfl ?_
  refine TL.convI_u64 Try.underlying3 Try.underlying76 rfl rfl ?_
  refine TL.call can50 rfl rfl (fn50 (Audit.u64i r.at_) w15) (fun v20 w20 hr20 => ?_)
  obtain ⟨hv20, hc20⟩ := hr20
  have p20 := Bits.put_len (Audit.u64i r.at_)
  have z20 := hc20.size
  refine TL.append sl50 rfl rfl rfl (hv15.ch0 hc20) (News.ofRd Try.underlying50 (Rd.ofOwn hv20) (one_u8 _)) (by omega) (by omega) (by omega) (fun v21 w21 hv21 hc21 _ => ?_)
  have q21 := (hv15.ch0 hc20).thenCh (q15.trans0 hc20) hc21
  have z21 := q21.size
  refine TL.assign rfl rfl ?_
  refine TL.done ?_
  refine Thn.go ?_
  refine TC.seq ?_
  refine TC.region ?_
  refine TL.move rfl rfl ?_
  refine TL.fieldAddr fd32k4 rfl rfl ?_
  refine TL.load pl3 rfl ((hb2.ch0 q21).cell _) rfl ?_
  refine TL.convI_u64 Try.underlying3 Try.underlying76 rfl rfl ?_
  refine TL.call can50 rfl rfl (fn50 (Audit.u64i r.outcome) w21) (fun v26 w26 hr26 => ?_)
  obtain ⟨hv26, hc26⟩ := hr26
  have p26 := Bits.put_len (Audit.u64i r.outcome)
  have z26 := hc26.size
  refine TL.append sl50 rfl rfl rfl (hv21.ch0 hc26) (News.ofRd Try.underlying50 (Rd.ofOwn hv26) (one_u8 _)) (by omega) (by omega) (by omega) (fun v27 w27 hv27 hc27 _ => ?_)
  have q27 := (hv21.ch0 hc26).thenCh (q21.trans0 hc26) hc27
  have z27 := q27.size
  refine TL.assign rfl rfl ?_
  refine TL.done ?_
  refine Thn.go ?_
  refine TC.seq ?_
  refine TC.region ?_
  refine TL.move rfl rfl ?_
  refine TL.fieldAddr fd32k2 rfl rfl ?_
  refine TL.load pl9 rfl ((hb2.ch0 q27).cell _) rfl ?_
  refine TL.call can49 rfl rfl (fn49 r.user (by omega) w27) (fun v31 w31 hr31 => ?_)
  obtain ⟨hv31, hc31⟩ := hr31
  have z31 := hc31.size
  refine TL.append sl50 rfl rfl rfl (hv27.ch0 hc31) (News.ofRd Try.underlying50 (Rd.ofOwn hv31) (one_u8 _)) (by omega) (by omega) (by omega) (fun v32 w32 hv32 hc32 _ => ?_)
  have q32 := (hv27.ch0 hc31).thenCh (q27.trans0 hc31) hc32
  have z32 := q32.size
  refine TL.assign rfl rfl ?_
  refine TL.done ?_
  refine Thn.go ?_
  refine TC.seq ?_
  refine TC.region ?_
  refine TL.move rfl rfl ?_
  refine TL.fieldAddr fd32k3 rfl rfl ?_
  refine TL.load pl9 rfl ((hb2.ch0 q32).cell _) rfl ?_
  refine TL.call can49 rfl rfl (fn49 r.deed (by omega) w32) (fun v36 w36 hr36 => ?_)
  obtain ⟨hv36, hc36⟩ := hr36
  have z36 := hc36.size
  refine TL.append sl50 rfl rfl rfl (hv32.ch0 hc36) (News.ofRd Try.underlying50 (Rd.ofOwn hv36) (one_u8 _)) (by omega) (by omega) (by omega) (fun v37 w37 hv37 hc37 _ => ?_)
  have q37 := (hv32.ch0 hc36).thenCh (q32.trans0 hc36) hc37
  refine TL.assign rfl rfl ?_
  refine TL.done ?_
  refine Thn.go ?_
  refine TC.ret ?_
  refine Ends.ret [4] rfl rfl ?_
  refine ⟨?_, hc2.trans0 q37⟩
  refine Own.base (Own.bytes (Audit.bytesR r b) hv37 (by simp only [Audit.bytesR, List.length_append]; omega) ?_) hc2.size
  simp [Audit.bytesR]

