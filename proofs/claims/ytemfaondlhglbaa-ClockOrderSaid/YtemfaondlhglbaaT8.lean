/-
  Walks through the given program: each theorem fnN says what the call of function N of the translation hands back, for all arguments that its premises describe, and that nothing that was there has turned.
-/
import Derived.Test.YtemfaondlhglbaaT7
namespace Go.Proofs.Ytemfaondlhglbaa
open Go.Lane
theorem can27 : Callable Try.prog 27 := ⟨Try.f27, Try.func27, by kernel_rfl, rfl⟩

theorem fn35 (x : Tm.Timer) (b : Nat) (t : Tm.Timer) (w : World) (hu : Has w b (cl t).toArray 27 (0, 0)) : Rets Try.prog 35 #[.agg (cl x).toArray, .pointer (some ⟨b, 0, none⟩)] w (fun v w' => v = .bool (decide (Tm.ahead t x)) ∧ Ch [] w w') := by
  refine Rets.of (n := 7) (vs := [_, _]) Try.func35 rfl rfl rfl ?_
  refine TC.seq ?_
  refine TC.region ?_
  refine TL.box rfl rfl (fun w2 hb2 hc2 hz2 => ?_)
  replace hb2 : Has w2 w.heap.size (cl x).toArray 27 (0, 0) := hb2
  refine TL.assign rfl rfl ?_
  refine TL.done ?_
  refine Thn.go ?_
  refine TC.seq ?_
  refine TC.region ?_
  refine TL.loadAgg (cl t) ag27 rfl rfl (fun j _ => by rw [(hu.ch0 hc2).cell, Nat.zero_add, List.getElem?_toArray]) rfl ?_
  refine TL.loadAgg (cl x) ag27 rfl rfl (fun j _ => by rw [hb2.cell, Nat.zero_add, List.getElem?_toArray]) rfl ?_
  refine TL.call can34 rfl rfl (fn34 t x w2) (fun v6 w6 hr6 => ?_)
  obtain ⟨rfl, hc6⟩ := hr6
  refine TL.assign rfl rfl ?_
  refine TL.done ?_
  refine Thn.go ?_
  refine TC.ret ?_
  refine Ends.ret [3] rfl rfl ?_
  exact ⟨rfl, hc2.trans0 hc6⟩

theorem fn17 (a : Value) (l : List Tm.Timer) (t : Tm.Timer) (w : World) (ha : Rd w a 5 l.length (l.flatMap cl)) : Rets Try.prog 17 #[a, .agg (cl t).toArray] w (fun v w' => ∃ r, v = .tuple #[r, .int .i64 (Tm.addE l t : Int)] ∧ Own w' w.heap.size 27 5 r (Tm.addL l t).length ((Tm.addL l t).flatMap cl) ∧ Ch [] w w') := by
  obtain ⟨ad, c, rfl, _⟩ := ha.shape
  refine Rets.of (n := 27) (vs := [_, _]) Try.func17 rfl rfl rfl ?_
  refine TC.seq ?_
  refine TC.region ?_
  refine TL.box rfl rfl (fun w3 hb3 hc3 hz3 => ?_)
  replace hb3 : Has w3 w.heap.size (cl t).toArray 27 (0, 0) := hb3
  refine TL.assign rfl rfl ?_
  refine TL.assign rfl rfl ?_
  refine TL.done ?_
  refine Thn.go ?_
  refine TC.seq ?_
  refine TC.region ?_
  refine TL.move rfl rfl ?_
  refine TL.call can21 rfl rfl (fn21 _ l w3 (ha.ch0 hc3)) (fun v8 w8 hr8 => ?_)
  obtain ⟨rfl, hc8⟩ := hr8
  have q8 := hc3.trans0 hc8
  have hb8 := hb3.ch0 hc8
  refine TL.assign rfl rfl ?_
  refine TL.done ?_
  refine Thn.go ?_
  refine TC.seq ?_
  refine TC.seq ?_
  refine TC.region ?_
  refine TL.move rfl rfl ?_
  refine TL.neq rfl rfl rfl ?_
  refine TL.done ?_
  refine Thn.go ?_
  refine TC.condP rfl (fun h1 => ?_) (fun h1 => ?_)
  ·
    obtain ⟨e1, e2⟩ := Tm.add_check (t := t) (show Tm.checkE l ≠ 0 by omega)
    refine TC.seq ?_
    refine TC.region ?_
    refine TL.move rfl rfl ?_
    refine TL.assign rfl rfl ?_
    refine TL.assign rfl rfl ?_
    refine TL.done ?_
    refine Thn.go ?_
    refine TC.ret ?_
    refine Thn.ret ?_
    refine Ends.ret [4, 5] rfl rfl ?_
    exact ⟨_, by rw [e1]; rfl, by rw [e2]; exact World.ownsRow_nil _ _ _ _, q8⟩
  ·
    have h0 : Tm.checkE l = 0 := by omega
    obtain ⟨hlen, _⟩ := Tm.check_zero h0
    refine TC.skip ?_
    refine Thn.go ?_
    refine TC.seq ?_
    refine TC.cut0 ([(0, .slice ad l.length c), (3, .pointer (some ⟨w.heap.size, 0, none⟩)), (20, .bool (decide (¬ Tm.may t ∨ Tm.has l t.seq)))]) (fun w2 => Ch [] w8 w2) (fun K2 hK2 => ?_) (fun w2 hH => ?_)
    ·
      refine TC.region ?_
      refine TL.loadAgg (cl t) ag27 rfl rfl (fun j _ => by rw [hb8.cell, Nat.zero_add, List.getElem?_toArray]) rfl ?_
      refine TL.call can25 rfl rfl (fn25 t w8) (fun v13 w13 hr13 => ?_)
      obtain ⟨rfl, hc13⟩ := hr13
      refine TL.em (fun e13 => ?_) (fun e13 => ?_)
      ·
        refine TL.not rfl rfl ?_
        refine TL.move rfl rfl ?_
        refine TL.guardYes (d := 15) rfl rfl rfl ?_
        refine TL.move rfl rfl ?_
        refine TL.guardYes (d := 15) rfl rfl rfl ?_
        refine TL.fieldAddr fd27k1 rfl rfl ?_
        refine TL.guardYes (d := 15) rfl rfl rfl ?_
        refine TL.load pl3 rfl ((show _ = some (Value.int .i64 t.seq) from (hb8.ch0 hc13).cell _)) rfl ?_
        refine TL.guardYes (d := 15) rfl rfl rfl ?_
        refine TL.call can26 rfl rfl (fn26 _ l t.seq w13 ((ha.ch0 q8).ch0 hc13)) (fun v19 w19 hr19 => ?_)
        obtain ⟨rfl, rfl⟩ := hr19
        refine TL.pickF rfl rfl rfl rfl ?_
        refine TL.done ?_
        exact hK2  _ _ (by repeat (first | exact trivial | refine ⟨rfl, ?_⟩ | refine ⟨congrArg (fun b => some (Value.bool b)) (by first | exact (decide_eq_true (by grind)).symm | exact (decide_eq_false (by grind)).symm | exact decide_eq_decide.2 (by grind) | exact decide_eq_true (by grind) | exact decide_eq_false (by grind) | (exfalso; grind)), ?_⟩)) (hc13)
      ·
        refine TL.not rfl rfl ?_
        refine TL.move rfl rfl ?_
        refine TL.guardNo (d := 15) rfl rfl rfl rfl rfl ?_
        refine TL.guardNo (d := 15) rfl rfl rfl rfl rfl ?_
        refine TL.guardNo (d := 15) rfl rfl rfl rfl rfl ?_
        refine TL.guardNo (d := 15) rfl rfl rfl rfl rfl ?_
        refine TL.pickT rfl rfl rfl rfl ?_
        refine TL.done ?_
        exact hK2  _ _ (by repeat (first | exact trivial | refine ⟨rfl, ?_⟩ | refine ⟨congrArg (fun b => some (Value.bool b)) (by first | exact (decide_eq_true (by grind)).symm | exact (decide_eq_false (by grind)).symm | exact decide_eq_decide.2 (by grind) | exact decide_eq_true (by grind) | exact decide_eq_false (by grind) | (exfalso; grind)), ?_⟩)) (hc13)
    ·
      have q2 := q8.trans0 hH
      refine TC.condP rfl (fun h4 => ?_) (fun h4 => ?_)
      ·
        obtain ⟨e1, e2⟩ := Tm.add_bad h0 (by assumption : ¬ Tm.may t ∨ Tm.has l t.seq)
        refine TC.seq ?_
        refine TC.region ?_
        refine TL.assign rfl rfl ?_
        refine TL.assign rfl rfl ?_
        refine TL.done ?_
        refine Thn.go ?_
        refine TC.ret ?_
        refine Thn.ret ?_
        refine Ends.ret [4, 5] rfl rfl ?_
        exact ⟨_, by rw [e1]; rfl, by rw [e2]; exact World.ownsRow_nil _ _ _ _, q2⟩
      ·
        refine TC.skip ?_
        refine Thn.go ?_
        refine TC.seq ?_
        refine TC.seq ?_
        refine TC.region ?_
        refine TL.move rfl rfl ?_
        refine TL.lenSlice Try.underlying25 rfl rfl ?_
        refine TL.eql rfl rfl rfl ?_
        refine TL.done ?_
        refine Thn.go ?_
        refine TC.condP rfl (fun h5 => ?_) (fun h5 => ?_)
        ·
          obtain ⟨e1, e2⟩ := Tm.add_many h0 (by assumption : ¬ (¬ Tm.may t ∨ Tm.has l t.seq)) (by omega)
          refine TC.seq ?_
          refine TC.region ?_
          refine TL.assign rfl rfl ?_
          refine TL.assign rfl rfl ?_
          refine TL.done ?_
          refine Thn.go ?_
          refine TC.ret ?_
          refine Thn.ret ?_
          refine Ends.ret [4, 5] rfl rfl ?_
          exact ⟨_, by rw [e1]; rfl, by rw [e2]; exact World.ownsRow_nil _ _ _ _, q2⟩
        ·
          obtain ⟨e1, e2⟩ := Tm.add_ok h0 (by assumption : ¬ (¬ Tm.may t ∨ Tm.has l t.seq)) (by omega)
          refine TC.skip ?_
          refine Thn.go ?_
          refine TC.seq ?_
          refine TC.region ?_
          refine TL.move rfl rfl ?_
          refine TL.loadAgg (cl t) ag27 rfl rfl (fun j _ => by rw [(hb8.ch0 hH).cell, Nat.zero_add, List.getElem?_toArray]) rfl ?_
          refine TL.call can27 rfl rfl (fn27 _ l t (by omega) w2 (ha.ch0 q2)) (fun v26 w26 hr26 => ?_)
          obtain ⟨hv26, hc26⟩ := hr26
          refine TL.assign rfl rfl ?_
          refine TL.assign rfl rfl ?_
          refine TL.done ?_
          refine Thn.go ?_
          refine TC.ret ?_
          refine Ends.ret [4, 5] rfl rfl ?_
          exact ⟨_, by rw [e1]; rfl, by rw [e2]; exact hv26.base q2.size, q2.trans0 hc26⟩

