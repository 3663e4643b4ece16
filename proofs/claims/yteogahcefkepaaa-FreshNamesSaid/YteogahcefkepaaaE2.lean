/-
  Walks through the given program: each theorem fnN says what the call of function N of the translation hands back, for all arguments that its premises describe, and that nothing that was there has turned.
-/
import Derived.Test.YteogahcefkepaaaE1
namespace Go.Proofs.Yteogahcefkepaaa
open Go.Lane
theorem ag30 : AggT Try.prog 30 4 := ⟨⟨_, Try.underlying30, rfl⟩, by kernel_rfl⟩
theorem can28 : Callable Try.prog 28 := ⟨Try.f28, Try.func28, by kernel_rfl, rfl⟩
theorem can29 : Callable Try.prog 29 := ⟨Try.f29, Try.func29, by kernel_rfl, rfl⟩
theorem can34 : Callable Try.prog 34 := ⟨Try.f34, Try.func34, by kernel_rfl, rfl⟩
theorem can35 : Callable Try.prog 35 := ⟨Try.f35, Try.func35, by kernel_rfl, rfl⟩
theorem gd30 : Try.prog.eqGuardType Try.prog.depth 30 = false := by kernel_rfl
theorem sl22 : SliceT Try.prog 22 30 4 48 (.agg #[.string ⟨#[]⟩, .string ⟨#[]⟩, .int .i64 0, .bool false]) := SliceT.mk' Try.underlying22 (by kernel_rfl) rfl rfl
theorem sz30 : (Try.prog.info? 30).map (·.size) = some 4 := by kernel_rfl
theorem ze30 : ZeroT Try.prog 30 (.agg #[.string ⟨#[]⟩, .string ⟨#[]⟩, .int .i64 0, .bool false]) := by unfold ZeroT; kernel_rfl

theorem fn34 (x : En.Entry) (w : World) : Rets Try.prog 34 #[.agg (cl x).toArray] w (fun v w' => v = .int .i64 (En.one x : Int) ∧ Ch [] w w') := by
  refine Rets.of (n := 35) (vs := [_]) Try.func34 rfl rfl rfl ?_
  refine TC.seq ?_
  refine TC.region ?_
  refine TL.box rfl rfl (fun w1 hb1 hc1 hz1 => ?_)
  replace hb1 : Has w1 w.heap.size (cl x).toArray 30 (0, 0) := hb1
  refine TL.assign rfl rfl ?_
  refine TL.done ?_
  refine Thn.go ?_
  refine TC.seq ?_
  refine TC.block ?_
  refine TC.regionBool (d := 3) (p := (x.key.length < 1 ∨ 256 < x.key.length)) (fun K1 hK1 => ?_) ?_
  ·
    refine TL.fieldAddr fd30k0 rfl rfl ?_
    refine TL.load pl9 rfl (hb1.cell _) rfl ?_
    refine TL.eqlStr rfl rfl rfl ?_
    refine TL.em (fun e6 => ?_) (fun e6 => ?_)
    ·
      have z6 : x.key.length = 0 := congrArg List.length e6
      refine TL.move rfl rfl ?_
      refine TL.guardNo (d := 7) rfl rfl rfl rfl rfl ?_
      refine TL.guardNo (d := 7) rfl rfl rfl rfl rfl ?_
      refine TL.guardNo (d := 7) rfl rfl rfl rfl rfl ?_
      refine TL.guardNo (d := 7) rfl rfl rfl rfl rfl ?_
      refine TL.pickT rfl rfl rfl rfl ?_
      refine TL.assign rfl rfl ?_
      refine TL.done ?_
      refine hK1 _ ?_
      refine Le.here rfl (by first | exact decide_eq_true (by omega) | exact decide_eq_false (by omega) | exact decide_eq_decide.2 (by omega) | exact decide_eq_true (by grind) | exact decide_eq_false (by grind) | exact decide_eq_decide.2 (by grind)) ?_
      repeat (first | exact Le.refl _ | refine Le.skip rfl ?_)
    ·
      have z6 : 0 < x.key.length := List.length_pos_iff.2 e6
      refine TL.move rfl rfl ?_
      refine TL.guardYes (d := 7) rfl rfl rfl ?_
      refine TL.fieldAddr fd30k0 rfl rfl ?_
      refine TL.guardYes (d := 7) rfl rfl rfl ?_
      refine TL.load pl9 rfl (hb1.cell _) rfl ?_
      refine TL.guardYes (d := 7) rfl rfl rfl ?_
      refine TL.lenStr Try.underlying9 rfl rfl ?_
      refine TL.guardYes (d := 7) rfl rfl rfl ?_
      refine TL.gtr rfl rfl rfl ?_
      refine TL.pickF rfl rfl rfl rfl ?_
      refine TL.assign rfl rfl ?_
      refine TL.done ?_
      refine hK1 _ ?_
      refine Le.here rfl (by first | exact decide_eq_true (by omega) | exact decide_eq_false (by omega) | exact decide_eq_decide.2 (by omega) | exact decide_eq_true (by grind) | exact decide_eq_false (by grind) | exact decide_eq_decide.2 (by grind)) ?_
      repeat (first | exact Le.refl _ | refine Le.skip rfl ?_)
  refine TC.condP rfl (fun h3 => ?_) (fun h3 => ?_)
  ·
    have g1 : x.key.length < 1 ∨ 256 < x.key.length := by assumption
    refine TC.seq ?_
    refine TC.region ?_
    refine TL.assign rfl rfl ?_
    refine TL.done ?_
    refine Thn.go ?_
    refine TC.ret ?_
    refine Blk.ret ?_
    refine Thn.ret ?_
    refine Ends.ret [2] rfl rfl ?_
    exact ⟨by rw [En.one_key g1]; rfl, hc1⟩
  ·
    have g1 : ¬ (x.key.length < 1 ∨ 256 < x.key.length) := by assumption
    refine TC.seq ?_
    refine TC.region ?_
    refine TL.fieldAddr fd30k1 rfl rfl ?_
    refine TL.load pl9 rfl (hb1.cell _) rfl ?_
    refine TL.lenStr Try.underlying9 rfl rfl ?_
    refine TL.gtr rfl rfl rfl ?_
    refine TL.assign rfl rfl ?_
    refine TL.done ?_
    refine Thn.go ?_
    refine TC.condP rfl (fun h4 => ?_) (fun h4 => ?_)
    ·
      have g2 : 4096 < x.value.length := by omega
      refine TC.seq ?_
      refine TC.region ?_
      refine TL.assign rfl rfl ?_
      refine TL.done ?_
      refine Thn.go ?_
      refine TC.ret ?_
      refine Blk.ret ?_
      refine Thn.ret ?_
      refine Ends.ret [2] rfl rfl ?_
      exact ⟨by rw [En.one_text g1 g2]; rfl, hc1⟩
    ·
      have g2 : ¬ 4096 < x.value.length := by omega
      refine TC.regionBool (d := 18) (p := (x.seq < 0 ∨ 2147483647 < x.seq)) (fun K5 hK5 => ?_) ?_
      ·
        refine TL.fieldAddr fd30k2 rfl rfl ?_
        refine TL.load pl3 rfl (hb1.cell _) rfl ?_
        refine TL.lss rfl rfl rfl ?_
        refine TL.em (fun e21 => ?_) (fun e21 => ?_)
        ·
          refine TL.move rfl rfl ?_
          refine TL.guardNo (d := 22) rfl rfl rfl rfl rfl ?_
          refine TL.guardNo (d := 22) rfl rfl rfl rfl rfl ?_
          refine TL.guardNo (d := 22) rfl rfl rfl rfl rfl ?_
          refine TL.pickT rfl rfl rfl rfl ?_
          refine TL.assign rfl rfl ?_
          refine TL.done ?_
          refine hK5 _ ?_
          refine Le.here rfl (by first | exact decide_eq_true (by omega) | exact decide_eq_false (by omega) | exact decide_eq_decide.2 (by omega) | exact decide_eq_true (by grind) | exact decide_eq_false (by grind) | exact decide_eq_decide.2 (by grind)) ?_
          repeat (first | exact Le.refl _ | refine Le.skip rfl ?_)
        ·
          refine TL.move rfl rfl ?_
          refine TL.guardYes (d := 22) rfl rfl rfl ?_
          refine TL.fieldAddr fd30k2 rfl rfl ?_
          refine TL.guardYes (d := 22) rfl rfl rfl ?_
          refine TL.load pl3 rfl (hb1.cell _) rfl ?_
          refine TL.guardYes (d := 22) rfl rfl rfl ?_
          refine TL.gtr rfl rfl rfl ?_
          refine TL.pickF rfl rfl rfl rfl ?_
          refine TL.assign rfl rfl ?_
          refine TL.done ?_
          refine hK5 _ ?_
          refine Le.here rfl (by first | exact decide_eq_true (by omega) | exact decide_eq_false (by omega) | exact decide_eq_decide.2 (by omega) | exact decide_eq_true (by grind) | exact decide_eq_false (by grind) | exact decide_eq_decide.2 (by grind)) ?_
          repeat (first | exact Le.refl _ | refine Le.skip rfl ?_)
      refine TC.condP rfl (fun h7 => ?_) (fun h7 => ?_)
      ·
        have g3 : x.seq < 0 ∨ 2147483647 < x.seq := by assumption
        refine TC.seq ?_
        refine TC.region ?_
        refine TL.assign rfl rfl ?_
        refine TL.done ?_
        refine Thn.go ?_
        refine TC.ret ?_
        refine Blk.ret ?_
        refine Thn.ret ?_
        refine Ends.ret [2] rfl rfl ?_
        exact ⟨by rw [En.one_arg g1 g2 g3]; rfl, hc1⟩
      ·
        have g3 : ¬ (x.seq < 0 ∨ 2147483647 < x.seq) := by assumption
        refine TC.regionBool (d := 27) (p := (x.gone = true ∧ x.value ≠ [])) (fun K8 hK8 => ?_) ?_
        ·
          refine TL.fieldAddr fd30k3 rfl rfl ?_
          refine TL.load pl4 rfl (hb1.cell _) rfl ?_
          refine TL.emB (fun e29 => ?_) (fun e29 => ?_)
          ·
            refine TL.move rfl rfl ?_
            refine TL.guardYes (d := 30) rfl rfl rfl ?_
            refine TL.fieldAddr fd30k1 rfl rfl ?_
            refine TL.guardYes (d := 30) rfl rfl rfl ?_
            refine TL.load pl9 rfl (hb1.cell _) rfl ?_
            refine TL.guardYes (d := 30) rfl rfl rfl ?_
            refine TL.neqStr rfl rfl rfl ?_
            refine TL.pickT rfl rfl rfl rfl ?_
            refine TL.assign rfl rfl ?_
            refine TL.done ?_
            refine hK8 _ ?_
            refine Le.here rfl (by first | exact decide_eq_true (by omega) | exact decide_eq_false (by omega) | exact decide_eq_decide.2 (by omega) | exact decide_eq_true (by grind) | exact decide_eq_false (by grind) | exact decide_eq_decide.2 (by grind)) ?_
            repeat (first | exact Le.refl _ | refine Le.skip rfl ?_)
          ·
            refine TL.move rfl rfl ?_
            refine TL.guardNo (d := 30) rfl rfl rfl rfl rfl ?_
            refine TL.guardNo (d := 30) rfl rfl rfl rfl rfl ?_
            refine TL.guardNo (d := 30) rfl rfl rfl rfl rfl ?_
            refine TL.pickF rfl rfl rfl rfl ?_
            refine TL.assign rfl rfl ?_
            refine TL.done ?_
            refine hK8 _ ?_
            refine Le.here rfl (by first | exact decide_eq_true (by omega) | exact decide_eq_false (by omega) | exact decide_eq_decide.2 (by omega) | exact decide_eq_true (by grind) | exact decide_eq_false (by grind) | exact decide_eq_decide.2 (by grind)) ?_
            repeat (first | exact Le.refl _ | refine Le.skip rfl ?_)
        refine TC.condP rfl (fun h9 => ?_) (fun h9 => ?_)
        ·
          have g4 : x.gone = true ∧ x.value ≠ [] := by assumption
          refine TC.seq ?_
          refine TC.region ?_
          refine TL.assign rfl rfl ?_
          refine TL.done ?_
          refine Thn.go ?_
          refine TC.ret ?_
          refine Blk.ret ?_
          refine Thn.ret ?_
          refine Ends.ret [2] rfl rfl ?_
          exact ⟨by rw [En.one_bad g1 g2 g3 g4]; rfl, hc1⟩
        ·
          have g4 : ¬ (x.gone = true ∧ x.value ≠ []) := by assumption
          refine TC.skip ?_
          refine Blk.go ?_
          refine Thn.go ?_
          refine TC.seq ?_
          refine TC.region ?_
          refine TL.assign rfl rfl ?_
          refine TL.done ?_
          refine Thn.go ?_
          refine TC.ret ?_
          refine Ends.ret [2] rfl rfl ?_
          exact ⟨by rw [En.one_ok g1 g2 g3 g4]; rfl, hc1⟩

theorem fn23 (a : Value) (l : List En.Entry) (w : World) (ha : Rd w a 4 l.length (l.flatMap cl)) : Rets Try.prog 23 #[a] w (fun v w' => v = .int .i64 (En.checkE l : Int) ∧ Ch [] w w') := by
  obtain ⟨ad, c, rfl, _⟩ := ha.shape
  have hmx : l.length ≤ 9223372036854775807 := ha.nlt
  refine Rets.of (n := 34) (vs := [_]) Try.func23 rfl rfl rfl ?_
  refine TC.seq ?_
  refine TC.region ?_
  refine TL.assign rfl rfl ?_
  refine TL.done ?_
  refine Thn.go ?_
  refine TC.seq ?_
  refine TC.seq ?_
  refine TC.region ?_
  refine TL.move rfl rfl ?_
  refine TL.lenSlice Try.underlying22 rfl rfl ?_
  refine TL.gtr rfl rfl rfl ?_
  refine TL.done ?_
  refine Thn.go ?_
  refine TC.condP rfl (fun h1 => ?_) (fun h1 => ?_)
  ·
    refine TC.seq ?_
    refine TC.region ?_
    refine TL.assign rfl rfl ?_
    refine TL.done ?_
    refine Thn.go ?_
    refine TC.ret ?_
    refine Thn.ret ?_
    refine Ends.ret [2] rfl rfl ?_
    exact ⟨by rw [En.check_many (by omega)]; rfl, Ch.refl _ _⟩
  ·
    refine TC.skip ?_
    refine Thn.go ?_
    refine TC.seq ?_
    refine TC.seq ?_
    refine TC.region ?_
    refine TL.move rfl rfl ?_
    refine TL.lenSlice Try.underlying22 rfl rfl ?_
    refine TL.move rfl rfl ?_
    refine TL.done ?_
    refine Thn.go ?_
    refine TC.block ?_
    refine TC.loop1 (fun (i : Nat) => [(0, .slice ad l.length c), (9, .slice ad l.length c), (10, .int .i64 (l.length : Int)), (11, .int .i64 (i : Int))]) (fun i w' => i ≤ l.length ∧ (∀ j, j < i → En.badAt l j = 0) ∧ Ch [] w w') (fun i => l.length - i) 0 (by repeat (first | exact trivial | refine ⟨rfl, ?_⟩)) (⟨by omega, by intro j hj; omega, Ch.refl _ _⟩) (fun i w' hH => ?_)
    obtain ⟨hi, hg, hch⟩ := hH
    refine TC.seq ?_
    refine TC.region ?_
    refine TL.lss rfl rfl rfl ?_
    refine TL.done ?_
    refine Thn.go ?_
    refine TC.seq ?_
    refine TC.condP rfl (fun h2 => ?_) (fun h2 => ?_)
    ·
      have hil : i < l.length := by omega
      obtain ⟨b1, o1, rfl, hall⟩ := recAll (ha.ch0 hch) (by omega)
      refine TC.skip ?_
      refine Thn.go ?_
      refine TC.seq ?_
      refine TC.block ?_
      refine TC.seq ?_
      refine TC.region ?_
      refine TL.move rfl rfl ?_
      refine TL.indexAddr (i) sl22 rfl rfl (by first | rfl | omega) (by omega) rfl ?_
      refine TL.loadAgg (cl (En.rec l i)) ag30 rfl rfl (fun j hj => hall i hil _ (Ch.refl _ _) j hj) rfl ?_
      refine TL.alloc ze30 rfl (fun w4 hb4 hc4 hz4 => ?_)
      refine TL.assign rfl rfl ?_
      refine TL.store sz30 rfl rfl rfl hb4 (by simp [Value.cells]) (by simpa [Value.cells] using cl_one (En.rec l i)) (.inl rfl) (fun ws1 hbs1 hcs1 hzs1 => ?_)
      replace hbs1 : Has ws1 w'.heap.size (cl (En.rec l i)).toArray 30 (0, 0) := hbs1.setAll rfl
      have q1 : Ch [] w' ws1 := hc4.then1 hcs1 (Nat.le_refl _)
      refine TL.done ?_
      refine Thn.go ?_
      refine TC.seq ?_
      refine TC.seq ?_
      refine TC.region ?_
      refine TL.loadAgg (cl (En.rec l i)) ag30 rfl rfl (fun j _ => by rw [hbs1.cell, Nat.zero_add, List.getElem?_toArray]) rfl ?_
      refine TL.call can34 rfl rfl (fn34 (En.rec l i) ws1) (fun v17 w17 hr17 => ?_)
      obtain ⟨rfl, hc17⟩ := hr17
      have q17 := q1.trans0 hc17
      refine TL.assign rfl rfl ?_
      refine TL.done ?_
      refine Thn.go ?_
      refine TC.seq ?_
      refine TC.region ?_
      refine TL.move rfl rfl ?_
      refine TL.neq rfl rfl rfl ?_
      refine TL.done ?_
      refine Thn.go ?_
      refine TC.condP rfl (fun h3 => ?_) (fun h3 => ?_)
      ·
        have hb : En.one (En.rec l i) ≠ 0 := by omega
        have hbe := En.bad_one hb
        refine TC.seq ?_
        refine TC.region ?_
        refine TL.move rfl rfl ?_
        refine TL.assign rfl rfl ?_
        refine TL.done ?_
        refine Thn.go ?_
        refine TC.ret ?_
        refine Thn.ret ?_
        refine Blk.ret ?_
        refine Thn.ret ?_
        refine Lp.ret ?_
        refine Blk.ret ?_
        refine Thn.ret ?_
        refine Ends.ret [2] rfl rfl ?_
        exact ⟨by rw [En.check_at (by omega) hil hg (by omega), hbe]; rfl, hch.trans0 q17⟩
      ·
        have hb : ¬ En.one (En.rec l i) ≠ 0 := by omega
        refine TC.skip ?_
        refine Thn.go ?_
        refine TC.cut0 ([(0, .slice (some ⟨b1, o1, none⟩) l.length c), (9, .slice (some ⟨b1, o1, none⟩) l.length c), (10, .int .i64 (l.length : Int)), (11, .int .i64 (i : Int)), (32, .bool (decide (0 < i ∧ ¬ En.less (En.rec l (i - 1)) (En.rec l i))))]) (fun w3 => Ch [] w17 w3) (fun K4 hK4 => ?_) (fun w3 hH => ?_)
        ·
          refine TC.regionQ (fun w4 => Ch [] w17 w4) mixed0 (by kernel_rfl) (Ch.drew [] _) ?_
          refine TQ.via rfl rfl rfl rfl (fun w2 hw2 => TL.move rfl rfl (TL.done ⟨rfl, rfl⟩)) ?_
          refine TQ.via rfl rfl rfl rfl (fun w2 hw2 => TL.gtr rfl rfl rfl (TL.done ⟨rfl, rfl⟩)) ?_
          refine TQ.em (fun e22 => ?_) (fun e22 => ?_)
          ·
            refine TQ.via rfl rfl rfl rfl (fun w2 hw2 => TL.move rfl rfl (TL.done ⟨rfl, rfl⟩)) ?_
            refine TQ.guardYes (d := 23) rfl rfl rfl ?_
            refine TQ.via rfl rfl rfl rfl (fun w2 hw2 => TL.move rfl rfl (TL.done ⟨rfl, rfl⟩)) ?_
            refine TQ.guardYes (d := 23) rfl rfl rfl ?_
            refine TQ.via rfl rfl rfl rfl (fun w2 hw2 => TL.move rfl rfl (TL.done ⟨rfl, rfl⟩)) ?_
            refine TQ.guardYes (d := 23) rfl rfl rfl ?_
            refine TQ.via rfl rfl rfl rfl (fun w2 hw2 => TL.sub_i64 rfl rfl (by omega) (by omega) rfl (TL.done ⟨rfl, rfl⟩)) ?_
            refine TQ.guardYes (d := 23) rfl rfl rfl ?_
            refine TQ.via rfl rfl rfl rfl (fun w2 hw2 => TL.indexAddr (i - 1) sl22 rfl rfl (by first | rfl | omega) (by omega) rfl (TL.done ⟨rfl, rfl⟩)) ?_
            refine TQ.guardYes (d := 23) rfl rfl rfl ?_
            refine TQ.via rfl rfl rfl rfl (fun w2 hw2 => TL.loadAgg (cl (En.rec l (i - 1))) ag30 rfl rfl (fun j hj => hall (i - 1) (by omega) _ (q17.trans0 hw2) j hj) rfl (TL.done ⟨rfl, rfl⟩)) ?_
            refine TQ.guardYes (d := 23) rfl rfl rfl ?_
            refine TQ.via rfl rfl rfl rfl (fun w2 hw2 => TL.loadAgg (cl (En.rec l i)) ag30 rfl rfl (fun j _ => by rw [(hbs1.ch0 (hc17.trans0 hw2)).cell, Nat.zero_add, List.getElem?_toArray]) rfl (TL.done ⟨rfl, rfl⟩)) ?_
            refine TQ.guardYes (d := 23) rfl rfl rfl ?_
            refine TQ.call (.bool (decide (En.less (En.rec l (i - 1)) (En.rec l i)))) can35 rfl rfl (fun w2 hw2 => (fn35 (En.rec l (i - 1)) (En.rec l i) w2).mono (fun _ _ ⟨q1, q2⟩ => ⟨q1, hw2.trans0 q2⟩)) ?_
            refine TQ.guardYes (d := 23) rfl rfl rfl ?_
            refine TQ.via rfl rfl rfl rfl (fun w2 hw2 => TL.notP rfl rfl (TL.done ⟨rfl, rfl⟩)) ?_
            refine TQ.via rfl rfl rfl rfl (fun w2 hw2 => TL.pickT rfl rfl rfl rfl (TL.done ⟨rfl, rfl⟩)) ?_
            refine TQ.done (fun w2 hw2 => ?_)
            exact hK4  _ _ (by repeat (first | exact trivial | refine ⟨rfl, ?_⟩ | refine ⟨congrArg (fun b => some (Value.bool b)) (by first | exact (decide_eq_true (by grind)).symm | exact (decide_eq_false (by grind)).symm | exact decide_eq_decide.2 (by grind) | exact decide_eq_true (by grind) | exact decide_eq_false (by grind) | (exfalso; grind)), ?_⟩)) (hw2)
          ·
            refine TQ.via rfl rfl rfl rfl (fun w2 hw2 => TL.move rfl rfl (TL.done ⟨rfl, rfl⟩)) ?_
            refine TQ.guardNo (d := 23) rfl rfl rfl rfl rfl ?_
            refine TQ.guardNo (d := 23) rfl rfl rfl rfl rfl ?_
            refine TQ.guardNo (d := 23) rfl rfl rfl rfl rfl ?_
            refine TQ.guardNo (d := 23) rfl rfl rfl rfl rfl ?_
            refine TQ.guardNo (d := 23) rfl rfl rfl rfl rfl ?_
            refine TQ.guardNo (d := 23) rfl rfl rfl rfl rfl ?_
            refine TQ.guardNo (d := 23) rfl rfl rfl rfl rfl ?_
            refine TQ.guardNo (d := 23) rfl rfl rfl rfl rfl ?_
            refine TQ.via rfl rfl rfl rfl (fun w2 hw2 => TL.pickF rfl rfl rfl rfl (TL.done ⟨rfl, rfl⟩)) ?_
            refine TQ.done (fun w2 hw2 => ?_)
            exact hK4  _ _ (by repeat (first | exact trivial | refine ⟨rfl, ?_⟩ | refine ⟨congrArg (fun b => some (Value.bool b)) (by first | exact (decide_eq_true (by grind)).symm | exact (decide_eq_false (by grind)).symm | exact decide_eq_decide.2 (by grind) | exact decide_eq_true (by grind) | exact decide_eq_false (by grind) | (exfalso; grind)), ?_⟩)) (hw2)
        ·
          refine TC.condP rfl (fun h6 => ?_) (fun h6 => ?_)
          ·
            have hbe := En.bad_order hb (by assumption)
            refine TC.seq ?_
            refine TC.region ?_
            refine TL.assign rfl rfl ?_
            refine TL.done ?_
            refine Thn.go ?_
            refine TC.ret ?_
            refine Blk.ret ?_
            refine Thn.ret ?_
            refine Lp.ret ?_
            refine Blk.ret ?_
            refine Thn.ret ?_
            refine Ends.ret [2] rfl rfl ?_
            exact ⟨by rw [En.check_at (by omega) hil hg (by omega), hbe]; rfl, (hch.trans0 q17).trans0 hH⟩
          ·
            have hbe := En.bad_ok hb (by assumption)
            refine TC.skip ?_
            refine Blk.go ?_
            refine Thn.go ?_
            refine TC.region ?_
            refine TL.add_i64 rfl rfl (by omega) (by omega) rfl ?_
            refine TL.move rfl rfl ?_
            refine TL.done ?_
            refine Lp.go (i + 1) (by repeat (first | exact trivial | refine ⟨rfl, ?_⟩)) ?_ (by first | omega | (dsimp only; omega))
            refine ⟨by omega, fun j hj => ?_, (hch.trans0 q17).trans0 hH⟩
            rcases Nat.lt_or_ge j i with h | h
            · exact hg j h
            · rw [show j = i by omega]; exact hbe
    ·
      have hil : i = l.length := by omega
      subst hil
      refine TC.exit ?_
      refine Thn.exit ?_
      refine Lp.exit ?_
      refine Blk.hit ?_
      refine Thn.go ?_
      refine TC.seq ?_
      refine TC.region ?_
      refine TL.assign rfl rfl ?_
      refine TL.done ?_
      refine Thn.go ?_
      refine TC.ret ?_
      refine Ends.ret [2] rfl rfl ?_
      exact ⟨by rw [En.check_ok (by omega) hg]; rfl, hch⟩

theorem fn19 (a : Value) (l : List En.Entry) (w : World) (ha : Rd w a 4 l.length (l.flatMap cl)) : Rets Try.prog 19 #[a] w (fun v w' => v = .int .i64 (En.checkE l : Int) ∧ Ch [] w w') := by
  obtain ⟨ad, c, rfl, _⟩ := ha.shape
  have hmx : l.length ≤ 9223372036854775807 := ha.nlt
  refine Rets.of (n := 37) (vs := [_]) Try.func19 rfl rfl rfl ?_
  refine TC.seq ?_
  refine TC.region ?_
  refine TL.assign rfl rfl ?_
  refine TL.done ?_
  refine Thn.go ?_
  refine TC.seq ?_
  refine TC.seq ?_
  refine TC.region ?_
  refine TL.move rfl rfl ?_
  refine TL.lenSlice Try.underlying22 rfl rfl ?_
  refine TL.gtr rfl rfl rfl ?_
  refine TL.done ?_
  refine Thn.go ?_
  refine TC.condP rfl (fun h1 => ?_) (fun h1 => ?_)
  ·
    refine TC.seq ?_
    refine TC.region ?_
    refine TL.assign rfl rfl ?_
    refine TL.done ?_
    refine Thn.go ?_
    refine TC.ret ?_
    refine Thn.ret ?_
    refine Ends.ret [2] rfl rfl ?_
    exact ⟨by rw [En.check_many (by omega)]; rfl, Ch.refl _ _⟩
  ·
    refine TC.skip ?_
    refine Thn.go ?_
    refine TC.seq ?_
    refine TC.seq ?_
    refine TC.region ?_
    refine TL.assign rfl rfl ?_
    refine TL.done ?_
    refine Thn.go ?_
    refine TC.block ?_
    refine TC.loop1 (fun (i : Nat) => [(0, .slice ad l.length c), (3, .int .i64 (i : Int))]) (fun i w' => i ≤ l.length ∧ (∀ j, j < i → En.badAt l j = 0) ∧ Ch [] w w') (fun i => l.length - i) 0 (by repeat (first | exact trivial | refine ⟨rfl, ?_⟩)) (⟨by omega, by intro j hj; omega, Ch.refl _ _⟩) (fun i w' hH => ?_)
    obtain ⟨hi, hg, hch⟩ := hH
    refine TC.seq ?_
    refine TC.seq ?_
    refine TC.region ?_
    refine TL.move rfl rfl ?_
    refine TL.move rfl rfl ?_
    refine TL.lenSlice Try.underlying22 rfl rfl ?_
    refine TL.lss rfl rfl rfl ?_
    refine TL.done ?_
    refine Thn.go ?_
    refine TC.condP rfl (fun h2 => ?_) (fun h2 => ?_)
    ·
      have hil : i < l.length := by omega
      obtain ⟨b1, o1, rfl, hall⟩ := recAll (ha.ch0 hch) (by omega)
      refine TC.skip ?_
      refine Thn.go ?_
      refine TC.seq ?_
      refine TC.block ?_
      refine TC.seq ?_
      refine TC.region ?_
      refine TL.move rfl rfl ?_
      refine TL.move rfl rfl ?_
      refine TL.indexAddr (i) sl22 rfl rfl (by first | rfl | omega) (by omega) rfl ?_
      refine TL.loadAgg (cl (En.rec l i)) ag30 rfl rfl (fun j hj => hall i hil _ (Ch.refl _ _) j hj) rfl ?_
      refine TL.call can28 rfl rfl (fn28 (En.rec l i) w') (fun v18 w18 hr18 => ?_)
      obtain ⟨rfl, hc18⟩ := hr18
      refine TL.assign rfl rfl ?_
      refine TL.done ?_
      refine Thn.go ?_
      refine TC.seq ?_
      refine TC.seq ?_
      refine TC.region ?_
      refine TL.move rfl rfl ?_
      refine TL.neq rfl rfl rfl ?_
      refine TL.done ?_
      refine Thn.go ?_
      refine TC.condP rfl (fun h3 => ?_) (fun h3 => ?_)
      ·
        have hb : En.one (En.rec l i) ≠ 0 := by omega
        have hbe := En.bad_one hb
        refine TC.seq ?_
        refine TC.region ?_
        refine TL.move rfl rfl ?_
        refine TL.assign rfl rfl ?_
        refine TL.done ?_
        refine Thn.go ?_
        refine TC.ret ?_
        refine Thn.ret ?_
        refine Blk.ret ?_
        refine Thn.ret ?_
        refine Lp.ret ?_
        refine Blk.ret ?_
        refine Thn.ret ?_
        refine Ends.ret [2] rfl rfl ?_
        exact ⟨by rw [En.check_at (by omega) hil hg (by omega), hbe]; rfl, hch.trans0 hc18⟩
      ·
        have hb : ¬ En.one (En.rec l i) ≠ 0 := by omega
        refine TC.skip ?_
        refine Thn.go ?_
        refine TC.cut0 ([(0, .slice (some ⟨b1, o1, none⟩) l.length c), (3, .int .i64 (i : Int)), (36, .bool (decide (0 < i ∧ ¬ En.less (En.rec l (i - 1)) (En.rec l i))))]) (fun w3 => Ch [] w18 w3) (fun K4 hK4 => ?_) (fun w3 hH => ?_)
        ·
          refine TC.regionQ (fun w4 => Ch [] w18 w4) mixed0 (by kernel_rfl) (Ch.drew [] _) ?_
          refine TQ.via rfl rfl rfl rfl (fun w2 hw2 => TL.move rfl rfl (TL.done ⟨rfl, rfl⟩)) ?_
          refine TQ.via rfl rfl rfl rfl (fun w2 hw2 => TL.gtr rfl rfl rfl (TL.done ⟨rfl, rfl⟩)) ?_
          refine TQ.em (fun e23 => ?_) (fun e23 => ?_)
          ·
            refine TQ.via rfl rfl rfl rfl (fun w2 hw2 => TL.move rfl rfl (TL.done ⟨rfl, rfl⟩)) ?_
            refine TQ.guardYes (d := 24) rfl rfl rfl ?_
            refine TQ.via rfl rfl rfl rfl (fun w2 hw2 => TL.move rfl rfl (TL.done ⟨rfl, rfl⟩)) ?_
            refine TQ.guardYes (d := 24) rfl rfl rfl ?_
            refine TQ.via rfl rfl rfl rfl (fun w2 hw2 => TL.move rfl rfl (TL.done ⟨rfl, rfl⟩)) ?_
            refine TQ.guardYes (d := 24) rfl rfl rfl ?_
            refine TQ.via rfl rfl rfl rfl (fun w2 hw2 => TL.sub_i64 rfl rfl (by omega) (by omega) rfl (TL.done ⟨rfl, rfl⟩)) ?_
            refine TQ.guardYes (d := 24) rfl rfl rfl ?_
            refine TQ.via rfl rfl rfl rfl (fun w2 hw2 => TL.indexAddr (i - 1) sl22 rfl rfl (by first | rfl | omega) (by omega) rfl (TL.done ⟨rfl, rfl⟩)) ?_
            refine TQ.guardYes (d := 24) rfl rfl rfl ?_
            refine TQ.via rfl rfl rfl rfl (fun w2 hw2 => TL.loadAgg (cl (En.rec l (i - 1))) ag30 rfl rfl (fun j hj => hall (i - 1) (by omega) _ (hc18.trans0 hw2) j hj) rfl (TL.done ⟨rfl, rfl⟩)) ?_
            refine TQ.guardYes (d := 24) rfl rfl rfl ?_
            refine TQ.via rfl rfl rfl rfl (fun w2 hw2 => TL.move rfl rfl (TL.done ⟨rfl, rfl⟩)) ?_
            refine TQ.guardYes (d := 24) rfl rfl rfl ?_
            refine TQ.via rfl rfl rfl rfl (fun w2 hw2 => TL.move rfl rfl (TL.done ⟨rfl, rfl⟩)) ?_
            refine TQ.guardYes (d := 24) rfl rfl rfl ?_
            refine TQ.via rfl rfl rfl rfl (fun w2 hw2 => TL.indexAddr (i) sl22 rfl rfl (by first | rfl | omega) (by omega) rfl (TL.done ⟨rfl, rfl⟩)) ?_
            refine TQ.guardYes (d := 24) rfl rfl rfl ?_
            refine TQ.via rfl rfl rfl rfl (fun w2 hw2 => TL.loadAgg (cl (En.rec l i)) ag30 rfl rfl (fun j hj => hall i hil _ (hc18.trans0 hw2) j hj) rfl (TL.done ⟨rfl, rfl⟩)) ?_
            refine TQ.guardYes (d := 24) rfl rfl rfl ?_
            refine TQ.call (.bool (decide (En.less (En.rec l (i - 1)) (En.rec l i)))) can29 rfl rfl (fun w2 hw2 => (fn29 (En.rec l (i - 1)) (En.rec l i) w2).mono (fun _ _ ⟨q1, q2⟩ => ⟨q1, hw2.trans0 q2⟩)) ?_
            refine TQ.guardYes (d := 24) rfl rfl rfl ?_
            refine TQ.via rfl rfl rfl rfl (fun w2 hw2 => TL.notP rfl rfl (TL.done ⟨rfl, rfl⟩)) ?_
            refine TQ.via rfl rfl rfl rfl (fun w2 hw2 => TL.pickT rfl rfl rfl rfl (TL.done ⟨rfl, rfl⟩)) ?_
            refine TQ.done (fun w2 hw2 => ?_)
            exact hK4  _ _ (by repeat (first | exact trivial | refine ⟨rfl, ?_⟩ | refine ⟨congrArg (fun b => some (Value.bool b)) (by first | exact (decide_eq_true (by grind)).symm | exact (decide_eq_false (by grind)).symm | exact decide_eq_decide.2 (by grind) | exact decide_eq_true (by grind) | exact decide_eq_false (by grind) | (exfalso; grind)), ?_⟩)) (hw2)
          ·
            refine TQ.via rfl rfl rfl rfl (fun w2 hw2 => TL.move rfl rfl (TL.done ⟨rfl, rfl⟩)) ?_
            refine TQ.guardNo (d := 24) rfl rfl rfl rfl rfl ?_
            refine TQ.guardNo (d := 24) rfl rfl rfl rfl rfl ?_
            refine TQ.guardNo (d := 24) rfl rfl rfl rfl rfl ?_
            refine TQ.guardNo (d := 24) rfl rfl rfl rfl rfl ?_
            refine TQ.guardNo (d := 24) rfl rfl rfl rfl rfl ?_
            refine TQ.guardNo (d := 24) rfl rfl rfl rfl rfl ?_
            refine TQ.guardNo (d := 24) rfl rfl rfl rfl rfl ?_
            refine TQ.guardNo (d := 24) rfl rfl rfl rfl rfl ?_
            refine TQ.guardNo (d := 24) rfl rfl rfl rfl rfl ?_
            refine TQ.guardNo (d := 24) rfl rfl rfl rfl rfl ?_
            refine TQ.guardNo (d := 24) rfl rfl rfl rfl rfl ?_
            refine TQ.via rfl rfl rfl rfl (fun w2 hw2 => TL.pickF rfl rfl rfl rfl (TL.done ⟨rfl, rfl⟩)) ?_
            refine TQ.done (fun w2 hw2 => ?_)
            exact hK4  _ _ (by repeat (first | exact trivial | refine ⟨rfl, ?_⟩ | refine ⟨congrArg (fun b => some (Value.bool b)) (by first | exact (decide_eq_true (by grind)).symm | exact (decide_eq_false (by grind)).symm | exact decide_eq_decide.2 (by grind) | exact decide_eq_true (by grind) | exact decide_eq_false (by grind) | (exfalso; grind)), ?_⟩)) (hw2)
        ·
          refine TC.condP rfl (fun h6 => ?_) (fun h6 => ?_)
          ·
            have hbe := En.bad_order hb (by assumption)
            refine TC.seq ?_
            refine TC.region ?_
            refine TL.assign rfl rfl ?_
            refine TL.done ?_
            refine Thn.go ?_
            refine TC.ret ?_
            refine Blk.ret ?_
            refine Thn.ret ?_
            refine Lp.ret ?_
            refine Blk.ret ?_
            refine Thn.ret ?_
            refine Ends.ret [2] rfl rfl ?_
            exact ⟨by rw [En.check_at (by omega) hil hg (by omega), hbe]; rfl, (hch.trans0 hc18).trans0 hH⟩
          ·
            have hbe := En.bad_ok hb (by assumption)
            refine TC.skip ?_
            refine Blk.go ?_
            refine Thn.go ?_
            refine TC.region ?_
            refine TL.move rfl rfl ?_
            refine TL.add_i64 rfl rfl (by omega) (by omega) rfl ?_
            refine TL.assign rfl rfl ?_
            refine TL.done ?_
            refine Lp.go (i + 1) (by repeat (first | exact trivial | refine ⟨rfl, ?_⟩)) ?_ (by first | omega | (dsimp only; omega))
            refine ⟨by omega, fun j hj => ?_, (hch.trans0 hc18).trans0 hH⟩
            rcases Nat.lt_or_ge j i with h | h
            · exact hg j h
            · rw [show j = i by omega]; exact hbe
    ·
      have hil : i = l.length := by omega
      subst hil
      refine TC.exit ?_
      refine Thn.exit ?_
      refine Lp.exit ?_
      refine Blk.hit ?_
      refine Thn.go ?_
      refine TC.seq ?_
      refine TC.region ?_
      refine TL.assign rfl rfl ?_
      refine TL.done ?_
      refine Thn.go ?_
      refine TC.ret ?_
      refine Ends.ret [2] rfl rfl ?_
      exact ⟨by rw [En.check_ok (by omega) hg]; rfl, hch⟩

theorem fn15 (a b : Value) (l m : List En.Entry) (w : World) (ha : Rd w a 4 l.length (l.flatMap cl)) (hb : Rd w b 4 m.length (m.flatMap cl)) : Rets Try.prog 15 #[a, b] w (fun v w' => v = .bool (decide (l = m)) ∧ Ch [] w w') := by
  obtain ⟨ad, c, rfl, _⟩ := ha.shape
  obtain ⟨bd, d, rfl, _⟩ := hb.shape
  have hmx : l.length ≤ 9223372036854775807 := ha.nlt
  refine Rets.of (n := 26) (vs := [_, _]) Try.func15 rfl rfl rfl ?_
  refine TC.seq ?_
  refine TC.region ?_
  refine TL.assign rfl rfl ?_
  refine TL.done ?_
  refine Thn.go ?_
  refine TC.seq ?_
  refine TC.seq ?_
  refine TC.region ?_
  refine TL.move rfl rfl ?_
  refine TL.lenSlice Try.underlying22 rfl rfl ?_
  refine TL.move rfl rfl ?_
  refine TL.lenSlice Try.underlying22 rfl rfl ?_
  refine TL.neq rfl rfl rfl ?_
  refine TL.done ?_
  refine Thn.go ?_
  refine TC.condP rfl (fun h1 => ?_) (fun h1 => ?_)
  ·
    refine TC.seq ?_
    refine TC.region ?_
    refine TL.assign rfl rfl ?_
    refine TL.done ?_
    refine Thn.go ?_
    refine TC.ret ?_
    refine Thn.ret ?_
    refine Ends.ret [4] rfl rfl ?_
    exact ⟨congrArg Value.bool (decide_eq_false (by rintro rfl; exact absurd rfl (by assumption))).symm, Ch.refl _ _⟩
  ·
    have hlm : l.length = m.length := by omega
    refine TC.skip ?_
    refine Thn.go ?_
    refine TC.seq ?_
    refine TC.seq ?_
    refine TC.region ?_
    refine TL.assign rfl rfl ?_
    refine TL.done ?_
    refine Thn.go ?_
    refine TC.block ?_
    refine TC.loop1 (fun (i : Nat) => [(0, .slice ad l.length c), (1, .slice bd m.length d), (5, .int .i64 (i : Int))]) (fun i w' => i ≤ l.length ∧ (∀ j, j < i → En.rec l j = En.rec m j) ∧ Ch [] w w') (fun i => l.length - i) 0 (by repeat (first | exact trivial | refine ⟨rfl, ?_⟩)) (⟨by omega, by intro j hj; omega, Ch.refl _ _⟩) (fun i w' hH => ?_)
    obtain ⟨hi, hg, hch⟩ := hH
    refine TC.seq ?_
    refine TC.seq ?_
    refine TC.region ?_
    refine TL.move rfl rfl ?_
    refine TL.move rfl rfl ?_
    refine TL.lenSlice Try.underlying22 rfl rfl ?_
    refine TL.lss rfl rfl rfl ?_
    refine TL.done ?_
    refine Thn.go ?_
    refine TC.condP rfl (fun h2 => ?_) (fun h2 => ?_)
    ·
      have hil : i < l.length := by omega
      obtain ⟨b1, o1, rfl, hce⟩ := recIn ha hil
      obtain ⟨b2, o2, rfl, hce2⟩ := recIn hb (i := i) (by omega)
      refine TC.skip ?_
      refine Thn.go ?_
      refine TC.seq ?_
      refine TC.block ?_
      refine TC.seq ?_
      refine TC.regionQ (fun w4 => Ch [] w w4) mixed0 (by kernel_rfl) (hch.trans0 (Ch.drew [] _)) ?_
      refine TQ.via rfl rfl rfl rfl (fun w2 hw2 => TL.move rfl rfl (TL.done ⟨rfl, rfl⟩)) ?_
      refine TQ.via rfl rfl rfl rfl (fun w2 hw2 => TL.move rfl rfl (TL.done ⟨rfl, rfl⟩)) ?_
      refine TQ.via rfl rfl rfl rfl (fun w2 hw2 => TL.indexAddr (i) sl22 rfl rfl (by first | rfl | omega) (by omega) rfl (TL.done ⟨rfl, rfl⟩)) ?_
      refine TQ.via rfl rfl rfl rfl (fun w2 hw2 => TL.loadAgg (cl (En.rec l i)) ag30 rfl rfl (fun j hj => hce _ hw2 j hj) rfl (TL.done ⟨rfl, rfl⟩)) ?_
      refine TQ.via rfl rfl rfl rfl (fun w2 hw2 => TL.move rfl rfl (TL.done ⟨rfl, rfl⟩)) ?_
      refine TQ.via rfl rfl rfl rfl (fun w2 hw2 => TL.move rfl rfl (TL.done ⟨rfl, rfl⟩)) ?_
      refine TQ.via rfl rfl rfl rfl (fun w2 hw2 => TL.indexAddr (i) sl22 rfl rfl (by first | rfl | omega) (by omega) rfl (TL.done ⟨rfl, rfl⟩)) ?_
      refine TQ.via rfl rfl rfl rfl (fun w2 hw2 => TL.loadAgg (cl (En.rec m i)) ag30 rfl rfl (fun j hj => hce2 _ hw2 j hj) rfl (TL.done ⟨rfl, rfl⟩)) ?_
      refine TQ.via rfl rfl rfl rfl (fun w2 hw2 => TL.neqAgg gd30 (eqEntry _ _ _) rfl rfl rfl (TL.done ⟨rfl, rfl⟩)) ?_
      refine TQ.done (fun w2 hw2 => ?_)
      refine Thn.go ?_
      refine TC.condP rfl (fun h3 => ?_) (fun h3 => ?_)
      ·
        refine TC.seq ?_
        refine TC.region ?_
        refine TL.assign rfl rfl ?_
        refine TL.done ?_
        refine Thn.go ?_
        refine TC.ret ?_
        refine Blk.ret ?_
        refine Thn.ret ?_
        refine Lp.ret ?_
        refine Blk.ret ?_
        refine Thn.ret ?_
        refine Ends.ret [4] rfl rfl ?_
        exact ⟨congrArg Value.bool (decide_eq_false (by rintro rfl; exact absurd rfl (by assumption))).symm, hw2⟩
      ·
        refine TC.skip ?_
        refine Blk.go ?_
        refine Thn.go ?_
        refine TC.region ?_
        refine TL.move rfl rfl ?_
        refine TL.add_i64 rfl rfl (by omega) (by omega) rfl ?_
        refine TL.assign rfl rfl ?_
        refine TL.done ?_
        refine Lp.go (i + 1) (by repeat (first | exact trivial | refine ⟨rfl, ?_⟩)) ?_ (by first | omega | (dsimp only; omega))
        refine ⟨by omega, fun j hj => ?_, hw2⟩
        rcases Nat.lt_or_ge j i with h | h
        · exact hg j h
        · rw [show j = i by omega]; exact Decidable.not_not.1 (by assumption)
    ·
      have hil : i = l.length := by omega
      subst hil
      refine TC.exit ?_
      refine Thn.exit ?_
      refine Lp.exit ?_
      refine Blk.hit ?_
      refine Thn.go ?_
      refine TC.seq ?_
      refine TC.region ?_
      refine TL.assign rfl rfl ?_
      refine TL.done ?_
      refine Thn.go ?_
      refine TC.ret ?_
      refine Ends.ret [4] rfl rfl ?_
      exact ⟨congrArg Value.bool (decide_eq_true (En.rec_ext hlm hg)).symm, hch⟩

theorem fn21 (a b : Value) (l m : List En.Entry) (w : World) (ha : Rd w a 4 l.length (l.flatMap cl)) (hb : Rd w b 4 m.length (m.flatMap cl)) : Rets Try.prog 21 #[a, b] w (fun v w' => v = .bool (decide (l = m)) ∧ Ch [] w w') := by
  obtain ⟨ad, c, rfl, _⟩ := ha.shape
  obtain ⟨bd, d, rfl, _⟩ := hb.shape
  have hmx : l.length ≤ 9223372036854775807 := ha.nlt
  refine Rets.of (n := 26) (vs := [_, _]) Try.func21 rfl rfl rfl ?_
  refine TC.seq ?_
  refine TC.region ?_
  refine TL.assign rfl rfl ?_
  refine TL.done ?_
  refine Thn.go ?_
  refine TC.seq ?_
  refine TC.seq ?_
  refine TC.region ?_
  refine TL.move rfl rfl ?_
  refine TL.lenSlice Try.underlying22 rfl rfl ?_
  refine TL.move rfl rfl ?_
  refine TL.lenSlice Try.underlying22 rfl rfl ?_
  refine TL.neq rfl rfl rfl ?_
  refine TL.done ?_
  refine Thn.go ?_
  refine TC.condP rfl (fun h1 => ?_) (fun h1 => ?_)
  ·
    refine TC.seq ?_
    refine TC.region ?_
    refine TL.assign rfl rfl ?_
    refine TL.done ?_
    refine Thn.go ?_
    refine TC.ret ?_
    refine Thn.ret ?_
    refine Ends.ret [4] rfl rfl ?_
    exact ⟨congrArg Value.bool (decide_eq_false (by rintro rfl; exact absurd rfl (by assumption))).symm, Ch.refl _ _⟩
  ·
    have hlm : l.length = m.length := by omega
    refine TC.skip ?_
    refine Thn.go ?_
    refine TC.seq ?_
    refine TC.seq ?_
    refine TC.region ?_
    refine TL.assign rfl rfl ?_
    refine TL.done ?_
    refine Thn.go ?_
    refine TC.block ?_
    refine TC.loop1 (fun (i : Nat) => [(0, .slice ad l.length c), (1, .slice bd m.length d), (5, .int .i64 (i : Int))]) (fun i w' => i ≤ l.length ∧ (∀ j, j < i → En.rec l j = En.rec m j) ∧ Ch [] w w') (fun i => l.length - i) 0 (by repeat (first | exact trivial | refine ⟨rfl, ?_⟩)) (⟨by omega, by intro j hj; omega, Ch.refl _ _⟩) (fun i w' hH => ?_)
    obtain ⟨hi, hg, hch⟩ := hH
    refine TC.seq ?_
    refine TC.seq ?_
    refine TC.region ?_
    refine TL.move rfl rfl ?_
    refine TL.move rfl rfl ?_
    refine TL.lenSlice Try.underlying22 rfl rfl ?_
    refine TL.lss rfl rfl rfl ?_
    refine TL.done ?_
    refine Thn.go ?_
    refine TC.condP rfl (fun h2 => ?_) (fun h2 => ?_)
    ·
      have hil : i < l.length := by omega
      obtain ⟨b1, o1, rfl, hce⟩ := recIn ha hil
      obtain ⟨b2, o2, rfl, hce2⟩ := recIn hb (i := i) (by omega)
      refine TC.skip ?_
      refine Thn.go ?_
      refine TC.seq ?_
      refine TC.block ?_
      refine TC.seq ?_
      refine TC.regionQ (fun w4 => Ch [] w w4) mixed0 (by kernel_rfl) (hch.trans0 (Ch.drew [] _)) ?_
      refine TQ.via rfl rfl rfl rfl (fun w2 hw2 => TL.move rfl rfl (TL.done ⟨rfl, rfl⟩)) ?_
      refine TQ.via rfl rfl rfl rfl (fun w2 hw2 => TL.move rfl rfl (TL.done ⟨rfl, rfl⟩)) ?_
      refine TQ.via rfl rfl rfl rfl (fun w2 hw2 => TL.indexAddr (i) sl22 rfl rfl (by first | rfl | omega) (by omega) rfl (TL.done ⟨rfl, rfl⟩)) ?_
      refine TQ.via rfl rfl rfl rfl (fun w2 hw2 => TL.loadAgg (cl (En.rec l i)) ag30 rfl rfl (fun j hj => hce _ hw2 j hj) rfl (TL.done ⟨rfl, rfl⟩)) ?_
      refine TQ.via rfl rfl rfl rfl (fun w2 hw2 => TL.move rfl rfl (TL.done ⟨rfl, rfl⟩)) ?_
      refine TQ.via rfl rfl rfl rfl (fun w2 hw2 => TL.move rfl rfl (TL.done ⟨rfl, rfl⟩)) ?_
      refine TQ.via rfl rfl rfl rfl (fun w2 hw2 => TL.indexAddr (i) sl22 rfl rfl (by first | rfl | omega) (by omega) rfl (TL.done ⟨rfl, rfl⟩)) ?_
      refine TQ.via rfl rfl rfl rfl (fun w2 hw2 => TL.loadAgg (cl (En.rec m i)) ag30 rfl rfl (fun j hj => hce2 _ hw2 j hj) rfl (TL.done ⟨rfl, rfl⟩)) ?_
      refine TQ.via rfl rfl rfl rfl (fun w2 hw2 => TL.neqAgg gd30 (eqEntry _ _ _) rfl rfl rfl (TL.done ⟨rfl, rfl⟩)) ?_
      refine TQ.done (fun w2 hw2 => ?_)
      refine Thn.go ?_
      refine TC.condP rfl (fun h3 => ?_) (fun h3 => ?_)
      ·
        refine TC.seq ?_
        refine TC.region ?_
        refine TL.assign rfl rfl ?_
        refine TL.done ?_
        refine Thn.go ?_
        refine TC.ret ?_
        refine Blk.ret ?_
        refine Thn.ret ?_
        refine Lp.ret ?_
        refine Blk.ret ?_
        refine Thn.ret ?_
        refine Ends.ret [4] rfl rfl ?_
        exact ⟨congrArg Value.bool (decide_eq_false (by rintro rfl; exact absurd rfl (by assumption))).symm, hw2⟩
      ·
        refine TC.skip ?_
        refine Blk.go ?_
        refine Thn.go ?_
        refine TC.region ?_
        refine TL.move rfl rfl ?_
        refine TL.add_i64 rfl rfl (by omega) (by omega) rfl ?_
        refine TL.assign rfl rfl ?_
        refine TL.done ?_
        refine Lp.go (i + 1) (by repeat (first | exact trivial | refine ⟨rfl, ?_⟩)) ?_ (by first | omega | (dsimp only; omega))
        refine ⟨by omega, fun j hj => ?_, hw2⟩
        rcases Nat.lt_or_ge j i with h | h
        · exact hg j h
        · rw [show j = i by omega]; exact Decidable.not_not.1 (by assumption)
    ·
      have hil : i = l.length := by omega
      subst hil
      refine TC.exit ?_
      refine Thn.exit ?_
      refine Lp.exit ?_
      refine Blk.hit ?_
      refine Thn.go ?_
      refine TC.seq ?_
      refine TC.region ?_
      refine TL.assign rfl rfl ?_
      refine TL.done ?_
      refine Thn.go ?_
      refine TC.ret ?_
      refine Ends.ret [4] rfl rfl ?_
      exact ⟨congrArg Value.bool (decide_eq_true (En.rec_ext hlm hg)).symm, hch⟩

theorem fn22 (k : List UInt8) (q : Int) (w : World) : Rets Try.prog 22 #[str k, .int .i64 q] w (fun v w' => v = .agg (cl ⟨k, [], q, false⟩).toArray ∧ Ch [] w w') := by
  refine Rets.of (n := 8) (vs := [_, _]) Try.func22 rfl rfl rfl ?_
  refine TC.seq ?_
  refine TC.region ?_
  refine TL.alloc ze30 rfl (fun w4 hb4 hc4 hz4 => ?_)
  refine TL.done ?_
  refine Thn.go ?_
  refine TC.seq ?_
  refine TC.region ?_
  refine TL.move rfl rfl ?_
  refine TL.move rfl rfl ?_
  refine TL.buildRec [0, 2] [.tmp 5, .tmp 6] (cl ⟨k, [], q, false⟩) rfl rfl (by kernel_rfl) rfl ?_
  refine TL.store sz30 rfl rfl rfl hb4 (by simp [Value.cells]) (by simpa [Value.cells] using cl_one ⟨k, [], q, false⟩) (.inl rfl) (fun ws1 hbs1 hcs1 hzs1 => ?_)
  replace hbs1 : Has ws1 w.heap.size (cl ⟨k, [], q, false⟩).toArray 30 (0, 0) := hbs1.setAll rfl
  refine TL.done ?_
  refine Thn.go ?_
  refine TC.ret ?_
  refine Ends.cell (cl ⟨k, [], q, false⟩) (.inl rfl) rfl ag30 rfl rfl (fun j _ => by rw [hbs1.cell, Nat.zero_add, List.getElem?_toArray]) ?_
  exact ⟨rfl, hc4.then1 hcs1 (Nat.le_refl _)⟩

theorem fn31 (a : Value) (l : List En.Entry) (k : List UInt8) (q : Int) (w : World) (ha : Rd w a 4 l.length (l.flatMap cl)) : Rets Try.prog 31 #[a, str k, .int .i64 q] w (fun v w' => v = .tuple #[.agg (cl ((En.newest l k q).getD e0)).toArray, .bool (En.newest l k q).isSome] ∧ Ch [] w w') := by
  obtain ⟨ad, c, rfl, _⟩ := ha.shape
  have hmx : l.length ≤ 9223372036854775807 := ha.nlt
  refine Rets.of (n := 36) (vs := [_, _, _]) Try.func31 rfl rfl rfl ?_
  refine TC.seq ?_
  refine TC.region ?_
  refine TL.alloc ze30 rfl (fun w6 hb6 hc6 hz6 => ?_)
  refine TL.assign rfl rfl ?_
  refine TL.done ?_
  refine Thn.go ?_
  refine TC.seq ?_
  refine TC.seq ?_
  refine TC.region ?_
  refine TL.assign rfl rfl ?_
  refine TL.done ?_
  refine Thn.go ?_
  refine TC.block ?_
  refine TC.loop1 (fun (i : Nat) => [(0, .slice ad l.length c), (1, str k), (2, .int .i64 q), (6, .pointer (some ⟨w.heap.size, 0, none⟩)), (8, .int .i64 (i : Int))]) (fun i w' => i ≤ l.length ∧ (∀ j, j < i → ¬ En.hit (En.rec l j) k q) ∧ w6 = w') (fun i => l.length - i) 0 (by repeat (first | exact trivial | refine ⟨rfl, ?_⟩)) (⟨by omega, by intro j hj; omega, rfl⟩) (fun i w' hH => ?_)
  obtain ⟨hi, hg, rfl⟩ := hH
  refine TC.seq ?_
  refine TC.seq ?_
  refine TC.region ?_
  refine TL.move rfl rfl ?_
  refine TL.move rfl rfl ?_
  refine TL.lenSlice Try.underlying22 rfl rfl ?_
  refine TL.lss rfl rfl rfl ?_
  refine TL.done ?_
  refine Thn.go ?_
  refine TC.condP rfl (fun h1 => ?_) (fun h1 => ?_)
  ·
    have hil : i < l.length := by omega
    obtain ⟨b1, o1, rfl, hce⟩ := recIn ha hil
    refine TC.skip ?_
    refine Thn.go ?_
    refine TC.seq ?_
    refine TC.block ?_
    refine TC.regionBool (d := 30) (p := En.hit (En.rec l i) k q) (fun K2 hK2 => ?_) ?_
    ·
      refine TL.move rfl rfl ?_
      refine TL.move rfl rfl ?_
      refine TL.indexAddr (i) sl22 rfl rfl (by first | rfl | omega) (by omega) rfl ?_
      refine TL.fieldAddr fd30k0 rfl rfl ?_
      refine TL.load pl9 rfl ((show _ = some (str (En.rec l i).key) from hce _ hc6 0 (by decide))) rfl ?_
      refine TL.move rfl rfl ?_
      refine TL.eqlStr rfl rfl rfl ?_
      have hhit : En.hit (En.rec l i) k q ↔ (En.rec l i).key = k ∧ (En.rec l i).seq ≤ q := Iff.rfl
      refine TL.em (fun e21 => ?_) (fun e21 => ?_)
      ·
        refine TL.move rfl rfl ?_
        refine TL.guardYes (d := 22) rfl rfl rfl ?_
        refine TL.move rfl rfl ?_
        refine TL.guardYes (d := 22) rfl rfl rfl ?_
        refine TL.move rfl rfl ?_
        refine TL.guardYes (d := 22) rfl rfl rfl ?_
        refine TL.indexAddr (i) sl22 rfl rfl (by first | rfl | omega) (by omega) rfl ?_
        refine TL.guardYes (d := 22) rfl rfl rfl ?_
        refine TL.fieldAddr fd30k2 rfl rfl ?_
        refine TL.guardYes (d := 22) rfl rfl rfl ?_
        refine TL.load pl3 rfl ((show _ = some (Value.int .i64 (En.rec l i).seq) from hce _ hc6 2 (by decide))) rfl ?_
        refine TL.guardYes (d := 22) rfl rfl rfl ?_
        refine TL.move rfl rfl ?_
        refine TL.guardYes (d := 22) rfl rfl rfl ?_
        refine TL.leq rfl rfl rfl ?_
        refine TL.pickT rfl rfl rfl rfl ?_
        refine TL.done ?_
        refine hK2 _ ?_
        refine Le.here rfl (by first | exact decide_eq_true (by omega) | exact decide_eq_false (by omega) | exact decide_eq_decide.2 (by omega) | exact decide_eq_true (by grind) | exact decide_eq_false (by grind) | exact decide_eq_decide.2 (by grind)) ?_
        repeat (first | exact Le.refl _ | refine Le.skip rfl ?_)
      ·
        refine TL.move rfl rfl ?_
        refine TL.guardNo (d := 22) rfl rfl rfl rfl rfl ?_
        refine TL.guardNo (d := 22) rfl rfl rfl rfl rfl ?_
        refine TL.guardNo (d := 22) rfl rfl rfl rfl rfl ?_
        refine TL.guardNo (d := 22) rfl rfl rfl rfl rfl ?_
        refine TL.guardNo (d := 22) rfl rfl rfl rfl rfl ?_
        refine TL.guardNo (d := 22) rfl rfl rfl rfl rfl ?_
        refine TL.guardNo (d := 22) rfl rfl rfl rfl rfl ?_
        refine TL.pickF rfl rfl rfl rfl ?_
        refine TL.done ?_
        refine hK2 _ ?_
        refine Le.here rfl (by first | exact decide_eq_true (by omega) | exact decide_eq_false (by omega) | exact decide_eq_decide.2 (by omega) | exact decide_eq_true (by grind) | exact decide_eq_false (by grind) | exact decide_eq_decide.2 (by grind)) ?_
        repeat (first | exact Le.refl _ | refine Le.skip rfl ?_)
    refine TC.condP rfl (fun h4 => ?_) (fun h4 => ?_)
    ·
      have hfind : En.newest l k q = some (En.rec l i) := by
        rw [En.newest, List.find?_eq_some_iff_getElem]
        refine ⟨decide_eq_true (by assumption), i, hil, En.rec_eq hil, fun j hj => ?_⟩
        rw [En.rec_eq (by omega)]; simpa using hg j hj
      refine TC.seq ?_
      refine TC.region ?_
      refine TL.move rfl rfl ?_
      refine TL.move rfl rfl ?_
      refine TL.indexAddr (i) sl22 rfl rfl (by first | rfl | omega) (by omega) rfl ?_
      refine TL.loadAgg (cl (En.rec l i)) ag30 rfl rfl (fun j hj => hce _ hc6 j hj) rfl ?_
      refine TL.store sz30 rfl rfl rfl hb6 (by simp [Value.cells]) (by simpa [Value.cells] using cl_one (En.rec l i)) (.inl rfl) (fun ws1 hbs1 hcs1 hzs1 => ?_)
      replace hbs1 : Has ws1 w.heap.size (cl (En.rec l i)).toArray 30 (0, 0) := hbs1.setAll rfl
      refine TL.assign rfl rfl ?_
      refine TL.done ?_
      refine Thn.go ?_
      refine TC.ret ?_
      refine Blk.ret ?_
      refine Thn.ret ?_
      refine Lp.ret ?_
      refine Blk.ret ?_
      refine Thn.ret ?_
      refine Ends.cell2 (cl (En.rec l i)) (.inl rfl) rfl ag30 rfl rfl (fun j _ => by rw [hbs1.cell, Nat.zero_add, List.getElem?_toArray]) rfl ?_
      exact ⟨by rw [hfind]; rfl, hc6.then1 hcs1 (Nat.le_refl _)⟩
    ·
      refine TC.skip ?_
      refine Blk.go ?_
      refine Thn.go ?_
      refine TC.region ?_
      refine TL.move rfl rfl ?_
      refine TL.add_i64 rfl rfl (by omega) (by omega) rfl ?_
      refine TL.assign rfl rfl ?_
      refine TL.done ?_
      refine Lp.go (i + 1) (by repeat (first | exact trivial | refine ⟨rfl, ?_⟩)) ?_ (by first | omega | (dsimp only; omega))
      refine ⟨by omega, fun j hj => ?_, rfl⟩
      rcases Nat.lt_or_ge j i with h | h
      · exact hg j h
      · rw [show j = i by omega]; assumption
  ·
    have hil : i = l.length := by omega
    have hfind : En.newest l k q = none := by
      rw [En.newest, List.find?_eq_none]
      intro x hx
      obtain ⟨j, hj, rfl⟩ := List.getElem_of_mem hx
      rw [En.rec_eq hj]; simpa using hg j (by omega)
    refine TC.exit ?_
    refine Thn.exit ?_
    refine Lp.exit ?_
    refine Blk.hit ?_
    refine Thn.go ?_
    refine TC.seq ?_
    refine TC.region ?_
    refine TL.buildRec [] [] (cl e0) rfl rfl (by kernel_rfl) rfl ?_
    refine TL.store sz30 rfl rfl rfl hb6 (by simp [Value.cells]) (by simpa [Value.cells] using cl_one e0) (.inl rfl) (fun ws2 hbs2 hcs2 hzs2 => ?_)
    replace hbs2 : Has ws2 w.heap.size (cl e0).toArray 30 (0, 0) := hbs2.setAll rfl
    refine TL.assign rfl rfl ?_
    refine TL.done ?_
    refine Thn.go ?_
    refine TC.ret ?_
    refine Ends.cell2 (cl e0) (.inl rfl) rfl ag30 rfl rfl (fun j _ => by rw [hbs2.cell, Nat.zero_add, List.getElem?_toArray]) rfl ?_
    exact ⟨by rw [hfind]; rfl, hc6.then1 hcs2 (Nat.le_refl _)⟩

