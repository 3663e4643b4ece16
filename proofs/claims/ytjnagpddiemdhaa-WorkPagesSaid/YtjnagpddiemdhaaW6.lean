/-
  Walks through the given program: each theorem fnN says what the call of function N of the translation hands back, for all arguments that its premises describe, and that nothing that was there has turned.
-/
import Derived.Test.YtjnagpddiemdhaaW5
namespace Go.Proofs.Ytjnagpddiemdhaa
open Go.Lane
theorem can10 : Callable Try.prog 10 := ⟨Try.f10, Try.func10, by kernel_rfl, rfl⟩
theorem can11 : Callable Try.prog 11 := ⟨Try.f11, Try.func11, by kernel_rfl, rfl⟩
theorem can12 : Callable Try.prog 12 := ⟨Try.f12, Try.func12, by kernel_rfl, rfl⟩
theorem can8 : Callable Try.prog 8 := ⟨Try.f8, Try.func8, by kernel_rfl, rfl⟩
theorem can9 : Callable Try.prog 9 := ⟨Try.f9, Try.func9, by kernel_rfl, rfl⟩

theorem fn3 (a : Value) (l : List Wk.Work) (u : List UInt8) (rv : Value) (m : List (List UInt8)) (f k : Int) (w : World) (ha : Rd w a 6 l.length (l.flatMap cl)) (hr : Rd w rv 1 m.length (m.map str)) : Rets Try.prog 3 #[a, str u, rv, .int .i64 f, .int .i64 k] w (fun v w' => v = .bool true ∧ Ch [] w w') := by
  obtain ⟨ad, c, rfl, _⟩ := ha.shape
  obtain ⟨rd, rc, rfl, _⟩ := hr.shape
  refine Rets.of (n := 75) (vs := [_, _, _, _, _]) Try.func3 rfl rfl rfl ?_
  refine TC.seq ?_
  refine TC.region ?_
  refine TL.assign rfl rfl ?_
  refine TL.done ?_
  refine Thn.go ?_
  refine TC.seq ?_
  refine TC.regionBool (d := 25) (p := (600 < l.length ∨ 1100 < m.length)) (fun K1 hK1 => ?_) ?_
  ·
    refine TL.move rfl rfl ?_
    refine TL.lenSlice Try.underlying22 rfl rfl ?_
    refine TL.gtr rfl rfl rfl ?_
    refine TL.em (fun e20 => ?_) (fun e20 => ?_)
    ·
      refine TL.move rfl rfl ?_
      refine TL.guardNo (d := 21) rfl rfl rfl rfl rfl ?_
      refine TL.guardNo (d := 21) rfl rfl rfl rfl rfl ?_
      refine TL.guardNo (d := 21) rfl rfl rfl rfl rfl ?_
      refine TL.pickT rfl rfl rfl rfl ?_
      refine TL.done ?_
      refine hK1 _ ?_
      refine Le.here rfl (by first | exact decide_eq_true (by omega) | exact decide_eq_false (by omega) | exact decide_eq_decide.2 (by omega) | exact decide_eq_true (by grind) | exact decide_eq_false (by grind) | exact decide_eq_decide.2 (by grind)) ?_
      repeat (first | exact Le.refl _ | refine Le.skip rfl ?_)
    ·
      refine TL.move rfl rfl ?_
      refine TL.guardYes (d := 21) rfl rfl rfl ?_
      refine TL.move rfl rfl ?_
      refine TL.guardYes (d := 21) rfl rfl rfl ?_
      refine TL.lenSlice Try.underlying23 rfl rfl ?_
      refine TL.guardYes (d := 21) rfl rfl rfl ?_
      refine TL.gtr rfl rfl rfl ?_
      refine TL.pickF rfl rfl rfl rfl ?_
      refine TL.done ?_
      refine hK1 _ ?_
      refine Le.here rfl (by first | exact decide_eq_true (by omega) | exact decide_eq_false (by omega) | exact decide_eq_decide.2 (by omega) | exact decide_eq_true (by grind) | exact decide_eq_false (by grind) | exact decide_eq_decide.2 (by grind)) ?_
      repeat (first | exact Le.refl _ | refine Le.skip rfl ?_)
  refine TC.condP rfl (fun h3 => ?_) (fun h3 => ?_)
  ·
    refine TC.seq ?_
    refine TC.region ?_
    refine TL.assign rfl rfl ?_
    refine TL.done ?_
    refine Thn.go ?_
    refine TC.ret ?_
    refine Thn.ret ?_
    refine Ends.ret [10] rfl rfl ?_
    exact ⟨rfl, Ch.refl _ _⟩
  ·
    have hno : ¬ (600 < l.length ∨ 1100 < m.length) := by assumption
    refine TC.skip ?_
    refine Thn.go ?_
    refine TC.seq ?_
    refine TC.region ?_
    refine TL.move rfl rfl ?_
    refine TL.call can8 rfl rfl (fn8 _ l (by omega) w ha) (fun v27 w27 hr27 => ?_)
    obtain ⟨⟨g27, c27, rfl⟩, hv27, hc27⟩ := hr27
    have hcap := (Rd.ofOwn hv27).cap
    refine TL.assign rfl rfl ?_
    refine TL.done ?_
    refine Thn.go ?_
    refine TC.seq ?_
    refine TC.region ?_
    refine TL.move rfl rfl ?_
    refine TL.move rfl rfl ?_
    refine TL.lenSlice Try.underlying22 rfl rfl ?_
    refine TL.sliceTo (l.length) sl22 rfl rfl (by first | rfl | omega) (by omega) rfl ?_
    have ho := own_prefix hv27 (by omega)
    refine TL.assign rfl rfl ?_
    refine TL.done ?_
    refine Thn.go ?_
    refine TC.seq ?_
    refine TC.region ?_
    refine TL.move rfl rfl ?_
    refine TL.move rfl rfl ?_
    refine TL.move rfl rfl ?_
    refine TL.move rfl rfl ?_
    refine TL.move rfl rfl ?_
    refine TL.call can9 rfl rfl (fn9 _ l u _ m f k w27 ho (hr.ch0 hc27)) (fun v38 w38 hr38 => ?_)
    obtain ⟨r38, rfl, hv38, hc38⟩ := hr38
    refine TL.move rfl rfl ?_
    refine TL.extract rfl rfl rfl ?_
    refine TL.extract rfl rfl rfl ?_
    refine TL.assign rfl rfl ?_
    refine TL.assign rfl rfl ?_
    refine TL.done ?_
    refine Thn.go ?_
    refine TC.seq ?_
    refine TC.region ?_
    refine TL.move rfl rfl ?_
    refine TL.move rfl rfl ?_
    refine TL.move rfl rfl ?_
    refine TL.move rfl rfl ?_
    refine TL.move rfl rfl ?_
    refine TL.call can10 rfl rfl (fn10 _ l u _ m f k w38 ((ha.ch0 hc27).ch0 hc38) ((hr.ch0 hc27).ch0 hc38)) (fun v47 w47 hr47 => ?_)
    obtain ⟨r47, rfl, hv47, hc47⟩ := hr47
    obtain ⟨N, hN⟩ : ∃ N, Wk.forL l u m f k = N := ⟨_, rfl⟩
    rw [hN] at hv38 hv47
    refine TL.move rfl rfl ?_
    refine TL.extract rfl rfl rfl ?_
    refine TL.extract rfl rfl rfl ?_
    refine TL.assign rfl rfl ?_
    refine TL.assign rfl rfl ?_
    refine TL.done ?_
    refine Thn.go ?_
    refine TC.seq ?_
    refine TC.region ?_
    refine TL.move rfl rfl ?_
    refine TL.move rfl rfl ?_
    refine TL.eql rfl rfl rfl ?_
    refine TL.yes (rfl) ?_
    refine TL.move rfl rfl ?_
    refine TL.guardYes (d := 53) rfl rfl rfl ?_
    refine TL.move rfl rfl ?_
    refine TL.guardYes (d := 53) rfl rfl rfl ?_
    refine TL.move rfl rfl ?_
    refine TL.guardYes (d := 53) rfl rfl rfl ?_
    refine TL.call can11 rfl rfl (fn11 _ _ N N w47 (Rd.ofOwn (hv38.ch0 hc47)) (Rd.ofOwn hv47)) (fun v56 w56 hr56 => ?_)
    obtain ⟨rfl, hc56⟩ := hr56
    rw [show decide (N = N) = true from decide_eq_true rfl]
    have q56 := (hc38.trans0 hc47).trans0 hc56
    refine TL.pickT rfl rfl rfl rfl ?_
    refine TL.assign rfl rfl ?_
    refine TL.done ?_
    refine Thn.go ?_
    refine TC.seq ?_
    refine TC.region ?_
    refine TL.move rfl rfl ?_
    refine TL.call can12 rfl rfl (fn12 _ w27.heap.size N w56 ((hv38.ch0 hc47).ch0 hc56)) (fun v59 w59 hr59 => ?_)
    have hc59 : Ch [] w27 w59 := Own.thenCh ((hv38.ch0 hc47).ch0 hc56) q56 hr59
    refine TL.done ?_
    refine Thn.go ?_
    refine TC.cut0 ([(10, .bool true)]) (fun w2 => Ch [] w59 w2) (fun K4 hK4 => ?_) (fun w2 hH => ?_)
    ·
      refine TC.region ?_
      refine TL.move rfl rfl ?_
      refine TL.emB (fun e60 => ?_) (fun e60 => ?_)
      ·
        refine TL.move rfl rfl ?_
        refine TL.guardYes (d := 61) rfl rfl rfl ?_
        refine TL.move rfl rfl ?_
        refine TL.guardYes (d := 61) rfl rfl rfl ?_
        refine TL.move rfl rfl ?_
        refine TL.guardYes (d := 61) rfl rfl rfl ?_
        refine TL.call can11 rfl rfl (fn11 _ _ l l w59 (ho.ch0 hc59) ((ha.ch0 hc27).ch0 hc59)) (fun v64 w64 hr64 => ?_)
        obtain ⟨rfl, hc64⟩ := hr64
        refine TL.yes (rfl) ?_
        refine TL.pickT rfl rfl rfl rfl ?_
        refine TL.move rfl rfl ?_
        refine TL.guardYes (d := 66) rfl rfl rfl ?_
        refine TL.move rfl rfl ?_
        refine TL.guardYes (d := 66) rfl rfl rfl ?_
        refine TL.move rfl rfl ?_
        refine TL.guardYes (d := 66) rfl rfl rfl ?_
        refine TL.lenSlice Try.underlying22 rfl rfl ?_
        refine TL.guardYes (d := 66) rfl rfl rfl ?_
        refine TL.indexAddr (l.length) sl22 rfl rfl (by first | rfl | omega) (by omega) rfl ?_
        refine TL.guardYes (d := 66) rfl rfl rfl ?_
        refine TL.loadAgg (cl r77) ag33 rfl rfl (fun j hj => by obtain ⟨b', o', e, hh⟩ := recAt (i := l.length) (l := l ++ [r77]) (by rw [List.length_append]; exact ((Rd.ofOwn hv27).ch0 hc59).ch0 hc64) (by simp); cases e; rw [Wk.rec_last] at hh; exact hh j hj) rfl ?_
        refine TL.guardYes (d := 66) rfl rfl rfl ?_
        refine TL.buildRec [0] [.const (Value.int IntKind.i64 77)] (cl r77) rfl rfl (by kernel_rfl) rfl ?_
        refine TL.guardYes (d := 66) rfl rfl rfl ?_
        refine TL.eqlAgg gd33 (eqWork _ _ _) rfl rfl rfl ?_
        refine TL.pickT rfl rfl rfl rfl ?_
        refine TL.assign rfl rfl ?_
        refine TL.done ?_
        exact hK4  _ _ (by repeat (first | exact trivial | refine ⟨rfl, ?_⟩ | refine ⟨congrArg (fun b => some (Value.bool b)) (by first | exact (decide_eq_true (by grind)).symm | exact (decide_eq_false (by grind)).symm | exact decide_eq_decide.2 (by grind) | exact decide_eq_true (by grind) | exact decide_eq_false (by grind) | (exfalso; grind)), ?_⟩)) (by first | exact hc64 | cases e60)
      ·
        refine TL.move rfl rfl ?_
        refine TL.guardNo (d := 61) rfl rfl rfl rfl rfl ?_
        refine TL.guardNo (d := 61) rfl rfl rfl rfl rfl ?_
        refine TL.guardNo (d := 61) rfl rfl rfl rfl rfl ?_
        refine TL.pickF rfl rfl rfl rfl ?_
        refine TL.move rfl rfl ?_
        refine TL.guardNo (d := 66) rfl rfl rfl rfl rfl ?_
        refine TL.guardNo (d := 66) rfl rfl rfl rfl rfl ?_
        refine TL.guardNo (d := 66) rfl rfl rfl rfl rfl ?_
        refine TL.guardNo (d := 66) rfl rfl rfl rfl rfl ?_
        refine TL.guardNo (d := 66) rfl rfl rfl rfl rfl ?_
        refine TL.guardNo (d := 66) rfl rfl rfl rfl rfl ?_
        refine TL.guardNo (d := 66) rfl rfl rfl rfl rfl ?_
        refine TL.pickF rfl rfl rfl rfl ?_
        refine TL.assign rfl rfl ?_
        refine TL.done ?_
        exact hK4  _ _ (by repeat (first | exact trivial | refine ⟨rfl, ?_⟩ | refine ⟨congrArg (fun b => some (Value.bool b)) (by first | exact (decide_eq_true (by grind)).symm | exact (decide_eq_false (by grind)).symm | exact decide_eq_decide.2 (by grind) | exact decide_eq_true (by grind) | exact decide_eq_false (by grind) | (exfalso; grind)), ?_⟩)) (by first | exact hc64 | cases e60)
    ·
      refine TC.ret ?_
      refine Ends.ret [10] rfl rfl ?_
      exact ⟨rfl, (hc27.trans0 hc59).trans0 hH⟩

