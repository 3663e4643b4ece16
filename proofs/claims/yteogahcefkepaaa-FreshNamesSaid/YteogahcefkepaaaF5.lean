/-
  Walks through the given program: each theorem fnN says what the call of function N of the translation hands back, for all arguments that its premises describe, and that nothing that was there has turned.
-/
import Derived.Test.YteogahcefkepaaaF4
namespace Go.Proofs.Yteogahcefkepaaa
open Go.Lane
theorem can19 : Callable Try.prog 19 := ⟨Try.f19, Try.func19, by kernel_rfl, rfl⟩
theorem can31 : Callable Try.prog 31 := ⟨Try.f31, Try.func31, by kernel_rfl, rfl⟩

theorem fn11 (av : Value) (l : List En.Entry) (x : En.Entry) (w : World) (hl : l.length ≤ 1000000) (ha : Rd w av 4 l.length (l.flatMap cl)) : Rets Try.prog 11 #[av, .agg (cl x).toArray] w (fun r w' => ∃ o, r = .tuple #[o, .int .i64 (En.putE l x : Int)] ∧ Own w' w.heap.size 30 4 o (En.putL l x).length ((En.putL l x).flatMap cl) ∧ Ch [] w w') := by
  obtain ⟨ad, c, rfl, _⟩ := ha.shape
  have hmm : maxLen = 9223372036854775807 := rfl
  have hlc := rd_cap ha
  refine Rets.of (n := 62) (vs := [_, _]) Try.func11 rfl rfl rfl ?_
  refine TC.seq ?_
  refine TC.region ?_
  refine TL.box rfl rfl (fun w3 hb3 hc3 hz3 => ?_)
  have hbx : ∀ w2, Ch [] w3 w2 → ∀ q, q < 4 → w2.cell? ⟨w.heap.size, 0 + q, none⟩ = (cl x)[q]? := fun w2 h2 q _ => by rw [(hb3.ch0 h2).cell, Nat.zero_add]; simp [Value.cells]
  refine TL.assign rfl rfl ?_
  refine TL.assign rfl rfl ?_
  refine TL.done ?_
  refine Thn.go ?_
  refine TC.seq ?_
  refine TC.region ?_
  refine TL.move rfl rfl ?_
  refine TL.call can19 rfl rfl (fn19 _ l w3 (ha.ch0 hc3)) (fun v10 w10 hr10 => ?_)
  obtain ⟨rfl, hc10⟩ := hr10
  refine TL.assign rfl rfl ?_
  refine TL.done ?_
  refine Thn.go ?_
  refine TC.cut1 (fun (e : Nat) => [(0, .slice ad l.length c), (3, .pointer (some ⟨w.heap.size, 0, none⟩)), (6, .int .i64 (e : Int))]) (fun e w2 => (En.checkE l = 0 → e = En.one x) ∧ (En.checkE l ≠ 0 → e = En.checkE l) ∧ Ch [] w3 w2) (fun K1 hK1 => ?_) (fun e w2 hH => ?_)
  ·
    refine TC.seq ?_
    refine TC.region ?_
    refine TL.move rfl rfl ?_
    refine TL.eql rfl rfl rfl ?_
    refine TL.done ?_
    refine Thn.go ?_
    refine TC.condP rfl (fun h2 => ?_) (fun h2 => ?_)
    ·
      refine TC.region ?_
      refine TL.loadAgg (cl x) ag30 rfl rfl (fun q hq => hbx _ hc10 q hq) rfl ?_
      refine TL.call can28 rfl rfl (fn28 x w10) (fun v14 w14 hr14 => ?_)
      obtain ⟨rfl, hc14⟩ := hr14
      refine TL.assign rfl rfl ?_
      refine TL.done ?_
      exact hK1 (En.one x) _ _ (by repeat (first | exact trivial | refine ⟨rfl, ?_⟩ | refine ⟨congrArg (fun b => some (Value.bool b)) (by first | exact (decide_eq_true (by grind)).symm | exact (decide_eq_false (by grind)).symm | exact decide_eq_decide.2 (by grind) | exact decide_eq_true (by grind) | exact decide_eq_false (by grind) | (exfalso; grind)), ?_⟩)) (⟨fun _ => rfl, fun h => absurd (by omega) h, hc10.trans0 hc14⟩)
    ·
      refine TC.skip ?_
      exact hK1 (En.checkE l) _ _ (by repeat (first | exact trivial | refine ⟨rfl, ?_⟩ | refine ⟨congrArg (fun b => some (Value.bool b)) (by first | exact (decide_eq_true (by grind)).symm | exact (decide_eq_false (by grind)).symm | exact decide_eq_decide.2 (by grind) | exact decide_eq_true (by grind) | exact decide_eq_false (by grind) | (exfalso; grind)), ?_⟩)) (⟨fun h => absurd h (by omega), fun _ => rfl, hc10⟩)
  ·
    obtain ⟨hz, hnz, hch⟩ := hH
    refine TC.seq ?_
    refine TC.seq ?_
    refine TC.region ?_
    refine TL.move rfl rfl ?_
    refine TL.neq rfl rfl rfl ?_
    refine TL.done ?_
    refine Thn.go ?_
    refine TC.condP rfl (fun h3 => ?_) (fun h3 => ?_)
    ·
      have hpp : En.putE l x = e ∧ En.putL l x = [] := by
        by_cases h0 : En.checkE l = 0
        · obtain ⟨e1, e2⟩ := En.put_one (x := x) h0 (by rw [← hz h0]; omega); exact ⟨by rw [e1, hz h0], e2⟩
        · obtain ⟨e1, e2⟩ := En.put_bad (x := x) h0; exact ⟨by rw [e1, hnz h0], e2⟩
      refine TC.seq ?_
      refine TC.region ?_
      refine TL.move rfl rfl ?_
      refine TL.assign rfl rfl ?_
      refine TL.assign rfl rfl ?_
      refine TL.done ?_
      refine Thn.go ?_
      refine TC.ret ?_
      refine Thn.ret ?_
      refine Ends.ret [4, 5] rfl rfl ?_
      exact ⟨_, by rw [hpp.1]; rfl, by rw [hpp.2]; exact World.ownsRow_nil _ _ _ _, hc3.trans0 hch⟩
    ·
      have h0 : En.checkE l = 0 := Decidable.not_not.1 (fun h => h (by have := hnz h; omega))
      have h1 : En.one x = 0 := by have := hz h0; omega
      refine TC.skip ?_
      refine Thn.go ?_
      refine TC.seq ?_
      refine TC.region ?_
      refine TL.assign rfl rfl ?_
      refine TL.done ?_
      refine Thn.go ?_
      refine TC.seq ?_
      refine TC.block ?_
      refine TC.loop1 (fun (i : Nat) => [(0, .slice ad l.length c), (3, .pointer (some ⟨w.heap.size, 0, none⟩)), (7, .int .i64 (i : Int))]) (fun i w' => i ≤ l.length ∧ (∀ j, j < i → En.less (En.rec l j) x) ∧ Ch [] w3 w') (fun i => l.length - i) 0 (by repeat (first | exact trivial | refine ⟨rfl, ?_⟩)) (⟨by omega, fun j hj => by omega, hch⟩) (fun i w' hI => ?_)
      obtain ⟨hi, hlo, hch2⟩ := hI
      refine TC.seq ?_
      refine TC.cut0 ([(0, .slice ad l.length c), (3, .pointer (some ⟨w.heap.size, 0, none⟩)), (7, .int .i64 (i : Int)), (29, .bool (decide (i < l.length ∧ En.less (En.rec l i) x)))]) (fun w4 => Ch [] w3 w4) (fun K4 hK4 => ?_) (fun w4 hH7 => ?_)
      ·
        refine TC.regionQ (fun w6 => Ch [] w3 w6) mixed0 (by kernel_rfl) (hch2.trans0 (Ch.drew [] _)) ?_
        refine TQ.via rfl rfl rfl rfl (fun w2 hw2 => TL.move rfl rfl (TL.done ⟨rfl, rfl⟩)) ?_
        refine TQ.via rfl rfl rfl rfl (fun w2 hw2 => TL.move rfl rfl (TL.done ⟨rfl, rfl⟩)) ?_
        refine TQ.via rfl rfl rfl rfl (fun w2 hw2 => TL.lenSlice Try.underlying22 rfl rfl (TL.done ⟨rfl, rfl⟩)) ?_
        refine TQ.via rfl rfl rfl rfl (fun w2 hw2 => TL.lss rfl rfl rfl (TL.done ⟨rfl, rfl⟩)) ?_
        refine TQ.em (fun e21 => ?_) (fun e21 => ?_)
        ·
          have hil : i < l.length := by omega
          obtain ⟨b1, o1, rfl, hall⟩ := recIn (ha.ch0 hc3) hil
          refine TQ.via rfl rfl rfl rfl (fun w2 hw2 => TL.move rfl rfl (TL.done ⟨rfl, rfl⟩)) ?_
          refine TQ.guardYes (d := 22) rfl rfl rfl ?_
          refine TQ.via rfl rfl rfl rfl (fun w2 hw2 => TL.move rfl rfl (TL.done ⟨rfl, rfl⟩)) ?_
          refine TQ.guardYes (d := 22) rfl rfl rfl ?_
          refine TQ.via rfl rfl rfl rfl (fun w2 hw2 => TL.move rfl rfl (TL.done ⟨rfl, rfl⟩)) ?_
          refine TQ.guardYes (d := 22) rfl rfl rfl ?_
          refine TQ.via rfl rfl rfl rfl (fun w2 hw2 => TL.indexAddr (i) sl22 rfl rfl (by first | rfl | omega) (by omega) rfl (TL.done ⟨rfl, rfl⟩)) ?_
          refine TQ.guardYes (d := 22) rfl rfl rfl ?_
          refine TQ.via rfl rfl rfl rfl (fun w2 hw2 => TL.loadAgg (cl (En.rec l i)) ag30 rfl rfl (fun j hj => hall _ hw2 j hj) rfl (TL.done ⟨rfl, rfl⟩)) ?_
          refine TQ.guardYes (d := 22) rfl rfl rfl ?_
          refine TQ.via rfl rfl rfl rfl (fun w2 hw2 => TL.loadAgg (cl x) ag30 rfl rfl (fun q hq => hbx _ hw2 q hq) rfl (TL.done ⟨rfl, rfl⟩)) ?_
          refine TQ.guardYes (d := 22) rfl rfl rfl ?_
          refine TQ.call (.bool (decide (En.less (En.rec l i) x))) can29 rfl rfl (fun w2 hw2 => (fn29 _ _ w2).mono (fun _ _ ⟨q1, q2⟩ => ⟨q1, hw2.trans0 q2⟩)) ?_
          refine TQ.via rfl rfl rfl rfl (fun w2 hw2 => TL.pickT rfl rfl rfl rfl (TL.done ⟨rfl, rfl⟩)) ?_
          refine TQ.done (fun w2 hw2 => ?_)
          exact hK4  _ _ (by repeat (first | exact trivial | refine ⟨rfl, ?_⟩ | refine ⟨congrArg (fun b => some (Value.bool b)) (by first | exact (decide_eq_true (by grind)).symm | exact (decide_eq_false (by grind)).symm | exact decide_eq_decide.2 (by grind) | exact decide_eq_true (by grind) | exact decide_eq_false (by grind) | (exfalso; grind)), ?_⟩)) (hw2)
        ·
          refine TQ.via rfl rfl rfl rfl (fun w2 hw2 => TL.move rfl rfl (TL.done ⟨rfl, rfl⟩)) ?_
          refine TQ.guardNo (d := 22) rfl rfl rfl rfl rfl ?_
          refine TQ.guardNo (d := 22) rfl rfl rfl rfl rfl ?_
          refine TQ.guardNo (d := 22) rfl rfl rfl rfl rfl ?_
          refine TQ.guardNo (d := 22) rfl rfl rfl rfl rfl ?_
          refine TQ.guardNo (d := 22) rfl rfl rfl rfl rfl ?_
          refine TQ.guardNo (d := 22) rfl rfl rfl rfl rfl ?_
          refine TQ.via rfl rfl rfl rfl (fun w2 hw2 => TL.pickF rfl rfl rfl rfl (TL.done ⟨rfl, rfl⟩)) ?_
          refine TQ.done (fun w2 hw2 => ?_)
          exact hK4  _ _ (by repeat (first | exact trivial | refine ⟨rfl, ?_⟩ | refine ⟨congrArg (fun b => some (Value.bool b)) (by first | exact (decide_eq_true (by grind)).symm | exact (decide_eq_false (by grind)).symm | exact decide_eq_decide.2 (by grind) | exact decide_eq_true (by grind) | exact decide_eq_false (by grind) | (exfalso; grind)), ?_⟩)) (hw2)
      ·
        refine TC.condP rfl (fun h6 => ?_) (fun h6 => ?_)
        ·
          obtain ⟨hil, hls⟩ : i < l.length ∧ En.less (En.rec l i) x := by assumption
          refine TC.skip ?_
          refine Thn.go ?_
          refine TC.block ?_
          refine TC.region ?_
          refine TL.move rfl rfl ?_
          refine TL.add_i64 rfl rfl (by omega) (by omega) rfl ?_
          refine TL.assign rfl rfl ?_
          refine TL.done ?_
          refine Blk.go ?_
          refine Lp.go (i + 1) (by repeat (first | exact trivial | refine ⟨rfl, ?_⟩)) ?_ (by first | omega | (dsimp only; omega))
          refine ⟨by omega, fun j hj => ?_, hH7⟩
          rcases Nat.lt_or_ge j i with h | h
          · exact hlo j h
          · rw [show j = i by omega]; exact hls
        ·
          have hno : ¬ (i < l.length ∧ En.less (En.rec l i) x) := by assumption
          have he : En.ahead l x = i := En.ahead_eq hi hlo (by
            rcases Nat.lt_or_ge i l.length with h | h
            · exact .inr (fun h2 => hno ⟨h, h2⟩)
            · left; omega)
          refine TC.exit ?_
          refine Thn.exit ?_
          refine Lp.exit ?_
          refine Blk.hit ?_
          refine Thn.go ?_
          refine TC.seq ?_
          refine TC.cut0 ([(0, .slice ad l.length c), (3, .pointer (some ⟨w.heap.size, 0, none⟩)), (7, .int .i64 (i : Int)), (44, .bool (decide (i < l.length ∧ ¬ En.less x (En.rec l i))))]) (fun w5 => Ch [] w3 w5) (fun K7 hK7 => ?_) (fun w5 hH9 => ?_)
          ·
            refine TC.regionQ (fun w6 => Ch [] w3 w6) mixed0 (by kernel_rfl) (hH7.trans0 (Ch.drew [] _)) ?_
            refine TQ.via rfl rfl rfl rfl (fun w2 hw2 => TL.move rfl rfl (TL.done ⟨rfl, rfl⟩)) ?_
            refine TQ.via rfl rfl rfl rfl (fun w2 hw2 => TL.move rfl rfl (TL.done ⟨rfl, rfl⟩)) ?_
            refine TQ.via rfl rfl rfl rfl (fun w2 hw2 => TL.lenSlice Try.underlying22 rfl rfl (TL.done ⟨rfl, rfl⟩)) ?_
            refine TQ.via rfl rfl rfl rfl (fun w2 hw2 => TL.lss rfl rfl rfl (TL.done ⟨rfl, rfl⟩)) ?_
            refine TQ.em (fun e35 => ?_) (fun e35 => ?_)
            ·
              have hil : i < l.length := by omega
              obtain ⟨b1, o1, rfl, hall⟩ := recIn (ha.ch0 hc3) hil
              refine TQ.via rfl rfl rfl rfl (fun w2 hw2 => TL.move rfl rfl (TL.done ⟨rfl, rfl⟩)) ?_
              refine TQ.guardYes (d := 36) rfl rfl rfl ?_
              refine TQ.via rfl rfl rfl rfl (fun w2 hw2 => TL.loadAgg (cl x) ag30 rfl rfl (fun q hq => hbx _ hw2 q hq) rfl (TL.done ⟨rfl, rfl⟩)) ?_
              refine TQ.guardYes (d := 36) rfl rfl rfl ?_
              refine TQ.via rfl rfl rfl rfl (fun w2 hw2 => TL.move rfl rfl (TL.done ⟨rfl, rfl⟩)) ?_
              refine TQ.guardYes (d := 36) rfl rfl rfl ?_
              refine TQ.via rfl rfl rfl rfl (fun w2 hw2 => TL.move rfl rfl (TL.done ⟨rfl, rfl⟩)) ?_
              refine TQ.guardYes (d := 36) rfl rfl rfl ?_
              refine TQ.via rfl rfl rfl rfl (fun w2 hw2 => TL.indexAddr (i) sl22 rfl rfl (by first | rfl | omega) (by omega) rfl (TL.done ⟨rfl, rfl⟩)) ?_
              refine TQ.guardYes (d := 36) rfl rfl rfl ?_
              refine TQ.via rfl rfl rfl rfl (fun w2 hw2 => TL.loadAgg (cl (En.rec l i)) ag30 rfl rfl (fun j hj => hall _ hw2 j hj) rfl (TL.done ⟨rfl, rfl⟩)) ?_
              refine TQ.guardYes (d := 36) rfl rfl rfl ?_
              refine TQ.call (.bool (decide (En.less x (En.rec l i)))) can29 rfl rfl (fun w2 hw2 => (fn29 _ _ w2).mono (fun _ _ ⟨q1, q2⟩ => ⟨q1, hw2.trans0 q2⟩)) ?_
              refine TQ.guardYes (d := 36) rfl rfl rfl ?_
              refine TQ.via rfl rfl rfl rfl (fun w2 hw2 => TL.notP rfl rfl (TL.done ⟨rfl, rfl⟩)) ?_
              refine TQ.via rfl rfl rfl rfl (fun w2 hw2 => TL.pickT rfl rfl rfl rfl (TL.done ⟨rfl, rfl⟩)) ?_
              refine TQ.done (fun w2 hw2 => ?_)
              exact hK7  _ _ (by repeat (first | exact trivial | refine ⟨rfl, ?_⟩ | refine ⟨congrArg (fun b => some (Value.bool b)) (by first | exact (decide_eq_true (by grind)).symm | exact (decide_eq_false (by grind)).symm | exact decide_eq_decide.2 (by grind) | exact decide_eq_true (by grind) | exact decide_eq_false (by grind) | (exfalso; grind)), ?_⟩)) (hw2)
            ·
              refine TQ.via rfl rfl rfl rfl (fun w2 hw2 => TL.move rfl rfl (TL.done ⟨rfl, rfl⟩)) ?_
              refine TQ.guardNo (d := 36) rfl rfl rfl rfl rfl ?_
              refine TQ.guardNo (d := 36) rfl rfl rfl rfl rfl ?_
              refine TQ.guardNo (d := 36) rfl rfl rfl rfl rfl ?_
              refine TQ.guardNo (d := 36) rfl rfl rfl rfl rfl ?_
              refine TQ.guardNo (d := 36) rfl rfl rfl rfl rfl ?_
              refine TQ.guardNo (d := 36) rfl rfl rfl rfl rfl ?_
              refine TQ.guardNo (d := 36) rfl rfl rfl rfl rfl ?_
              refine TQ.via rfl rfl rfl rfl (fun w2 hw2 => TL.pickF rfl rfl rfl rfl (TL.done ⟨rfl, rfl⟩)) ?_
              refine TQ.done (fun w2 hw2 => ?_)
              exact hK7  _ _ (by repeat (first | exact trivial | refine ⟨rfl, ?_⟩ | refine ⟨congrArg (fun b => some (Value.bool b)) (by first | exact (decide_eq_true (by grind)).symm | exact (decide_eq_false (by grind)).symm | exact decide_eq_decide.2 (by grind) | exact decide_eq_true (by grind) | exact decide_eq_false (by grind) | (exfalso; grind)), ?_⟩)) (hw2)
          ·
            refine TC.condP rfl (fun h9 => ?_) (fun h9 => ?_)
            ·
              obtain ⟨e1, e2⟩ := En.put_tie h0 h1 (by rw [he]; assumption)
              refine TC.seq ?_
              refine TC.region ?_
              refine TL.assign rfl rfl ?_
              refine TL.assign rfl rfl ?_
              refine TL.done ?_
              refine Thn.go ?_
              refine TC.ret ?_
              refine Thn.ret ?_
              refine Ends.ret [4, 5] rfl rfl ?_
              exact ⟨_, by rw [e1]; rfl, by rw [e2]; exact World.ownsRow_nil _ _ _ _, hc3.trans0 hH9⟩
            ·
              have h2 : ¬ (En.ahead l x < l.length ∧ ¬ En.less x (En.rec l (En.ahead l x))) := by rw [he]; assumption
              refine TC.skip ?_
              refine Thn.go ?_
              refine TC.seq ?_
              refine TC.seq ?_
              refine TC.region ?_
              refine TL.move rfl rfl ?_
              refine TL.lenSlice Try.underlying22 rfl rfl ?_
              refine TL.geq rfl rfl rfl ?_
              refine TL.done ?_
              refine Thn.go ?_
              refine TC.condP rfl (fun h10 => ?_) (fun h10 => ?_)
              ·
                obtain ⟨e1, e2⟩ := En.put_many h0 h1 h2 (by omega)
                refine TC.seq ?_
                refine TC.region ?_
                refine TL.assign rfl rfl ?_
                refine TL.assign rfl rfl ?_
                refine TL.done ?_
                refine Thn.go ?_
                refine TC.ret ?_
                refine Thn.ret ?_
                refine Ends.ret [4, 5] rfl rfl ?_
                exact ⟨_, by rw [e1]; rfl, by rw [e2]; exact World.ownsRow_nil _ _ _ _, hc3.trans0 hH9⟩
              ·
                obtain ⟨e1, e2⟩ := En.put_ok h0 h1 h2 (by omega)
                rw [he] at e2
                have q5 := hc3.trans0 hH9
                have hpl : (l.take i).length = i := by rw [List.length_take]; omega
                have hdl : (l.drop i).length = l.length - i := List.length_drop
                refine TC.skip ?_
                refine Thn.go ?_
                refine TC.seq ?_
                refine TC.region ?_
                refine TL.assign rfl rfl ?_
                refine TL.done ?_
                refine Thn.go ?_
                refine TC.seq ?_
                refine TC.region ?_
                refine TL.move rfl rfl ?_
                refine TL.move rfl rfl ?_
                refine TL.move rfl rfl ?_
                refine TL.sliceTo (i) sl22 rfl rfl (by first | rfl | omega) (by omega) rfl ?_
                refine TL.append (base := w.heap.size) sl22 rfl rfl rfl (World.ownsRow_nil _ _ _ _) (News.ofRd Try.underlying22 (prefixRd (ha.ch0 q5) hi) (rows_one _)) (by omega) (by omega) q5.size (fun v52 w52 hv52 hc52 _ => ?_)
                rw [Nat.zero_add, List.nil_append] at hv52
                replace hc52 : Ch [] w5 w52 := hc52
                refine TL.assign rfl rfl ?_
                refine TL.done ?_
                refine Thn.go ?_
                refine TC.seq ?_
                refine TC.region ?_
                refine TL.move rfl rfl ?_
                refine TL.loadAgg (cl x) ag30 rfl rfl (fun q hq => hbx _ (hH9.trans0 hc52) q hq) rfl ?_
                refine TL.buildSlice [.tmp 54] sl22 rfl rfl rfl (by decide) (by first | simp [Value.cells]; done | simp [Value.cells, cl_len]; done) rfl (fun w55 hb55 hc55 hz55 => ?_)
                refine TL.append sl22 rfl rfl rfl (hv52.ch0 hc55) (News.ofRd Try.underlying22 (recOne hb55) (rows_one _)) (by omega) (by omega) (by have := q5.size; have := hc52.size; have := hc55.size; omega) (fun v56 w56 hv56 hc56 _ => ?_)
                have q56 : Ch [] w w56 := (hv52.ch0 hc55).thenCh' (q5.trans0 (hc52.trans0 hc55)) hc56 (Nat.le_refl _)
                refine TL.assign rfl rfl ?_
                refine TL.done ?_
                refine Thn.go ?_
                refine TC.seq ?_
                refine TC.region ?_
                refine TL.move rfl rfl ?_
                refine TL.move rfl rfl ?_
                refine TL.move rfl rfl ?_
                refine TL.sliceFrom (i) sl22 rfl rfl (by first | rfl | omega) (by omega) rfl ?_
                refine TL.append sl22 rfl rfl rfl hv56 (News.ofRd Try.underlying22 (suffixRd (ha.ch0 q56) hi) (rows_one _)) (by omega) (by omega) q56.size (fun v61 w61 hv61 hc61 _ => ?_)
                refine TL.assign rfl rfl ?_
                refine TL.assign rfl rfl ?_
                refine TL.done ?_
                refine Thn.go ?_
                refine TC.ret ?_
                refine Ends.ret [4, 5] rfl rfl ?_
                exact ⟨_, by rw [e1]; rfl, by rw [e2]; simpa [List.append_assoc, Nat.add_assoc, Nat.add_comm 1] using hv61, hv56.thenCh' q56 hc61 (Nat.le_refl _)⟩

theorem fn13 (av : Value) (l : List En.Entry) (k : List UInt8) (q : Int) (w : World) (ha : Rd w av 4 l.length (l.flatMap cl)) : Rets Try.prog 13 #[av, str k, .int .i64 q] w (fun r w' => r = .tuple #[.agg (cl ((En.findX l k q).getD e0)).toArray, .bool (En.findX l k q).isSome, .int .i64 (En.findE l k q : Int)] ∧ Ch [] w w') := by
  obtain ⟨ad, c, rfl, _⟩ := ha.shape
  have hmm : maxLen = 9223372036854775807 := rfl
  refine Rets.of (n := 43) (vs := [_, _, _]) Try.func13 rfl rfl rfl ?_
  refine TC.seq ?_
  refine TC.region ?_
  refine TL.alloc ze30 rfl (fun w6 hb6 hc6 hz6 => ?_)
  refine TL.assign rfl rfl ?_
  refine TL.assign rfl rfl ?_
  refine TL.done ?_
  refine Thn.go ?_
  refine TC.seq ?_
  refine TC.region ?_
  refine TL.move rfl rfl ?_
  refine TL.call can19 rfl rfl (fn19 _ l w6 (ha.ch0 hc6)) (fun v13 w13 hr13 => ?_)
  obtain ⟨rfl, hc13⟩ := hr13
  have q13 := hc6.trans0 hc13
  refine TL.assign rfl rfl ?_
  refine TL.done ?_
  refine Thn.go ?_
  refine TC.seq ?_
  refine TC.seq ?_
  refine TC.region ?_
  refine TL.move rfl rfl ?_
  refine TL.neq rfl rfl rfl ?_
  refine TL.done ?_
  refine Thn.go ?_
  refine TC.condP rfl (fun h1 => ?_) (fun h1 => ?_)
  ·
    obtain ⟨e1, e2⟩ := En.find_bad (l := l) (k := k) (n := q) (by omega)
    refine TC.seq ?_
    refine TC.region ?_
    refine TL.buildRec [] [] (cl e0) rfl rfl (by kernel_rfl) rfl ?_
    refine TL.move rfl rfl ?_
    refine TL.store sz30 rfl rfl rfl (hb6.ch0 hc13) (by simp [Value.cells]) (by simpa [Value.cells] using cl_one e0) (.inl rfl) (fun ws1 hbs1 hcs1 hzs1 => ?_)
    replace hbs1 : Has ws1 w.heap.size (cl e0).toArray 30 (0, 0) := hbs1.setAll rfl
    refine TL.assign rfl rfl ?_
    refine TL.assign rfl rfl ?_
    refine TL.done ?_
    refine Thn.go ?_
    refine TC.ret ?_
    refine Thn.ret ?_
    refine Ends.cell3 (cl e0) (.inl rfl) rfl ag30 rfl rfl (fun j _ => by rw [hbs1.cell, Nat.zero_add, List.getElem?_toArray]) rfl rfl ?_
    exact ⟨by rw [e1, e2]; rfl, q13.then1 hcs1 (Nat.le_refl _)⟩
  ·
    have h0 : En.checkE l = 0 := by omega
    refine TC.skip ?_
    refine Thn.go ?_
    refine TC.seq ?_
    refine TC.regionBool (d := 25) (p := (k.length < 1 ∨ 256 < k.length)) (fun K2 hK2 => ?_) ?_
    ·
      refine TL.move rfl rfl ?_
      refine TL.lenStr Try.underlying9 rfl rfl ?_
      refine TL.lss rfl rfl rfl ?_
      refine TL.em (fun e20 => ?_) (fun e20 => ?_)
      ·
        refine TL.move rfl rfl ?_
        refine TL.guardNo (d := 21) rfl rfl rfl rfl rfl ?_
        refine TL.guardNo (d := 21) rfl rfl rfl rfl rfl ?_
        refine TL.guardNo (d := 21) rfl rfl rfl rfl rfl ?_
        refine TL.pickT rfl rfl rfl rfl ?_
        refine TL.done ?_
        refine hK2 _ ?_
        refine Le.here rfl (by first | exact decide_eq_true (by omega) | exact decide_eq_false (by omega) | exact decide_eq_decide.2 (by omega) | exact decide_eq_true (by grind) | exact decide_eq_false (by grind) | exact decide_eq_decide.2 (by grind)) ?_
        repeat (first | exact Le.refl _ | refine Le.skip rfl ?_)
      ·
        refine TL.move rfl rfl ?_
        refine TL.guardYes (d := 21) rfl rfl rfl ?_
        refine TL.move rfl rfl ?_
        refine TL.guardYes (d := 21) rfl rfl rfl ?_
        refine TL.lenStr Try.underlying9 rfl rfl ?_
        refine TL.guardYes (d := 21) rfl rfl rfl ?_
        refine TL.gtr rfl rfl rfl ?_
        refine TL.pickF rfl rfl rfl rfl ?_
        refine TL.done ?_
        refine hK2 _ ?_
        refine Le.here rfl (by first | exact decide_eq_true (by omega) | exact decide_eq_false (by omega) | exact decide_eq_decide.2 (by omega) | exact decide_eq_true (by grind) | exact decide_eq_false (by grind) | exact decide_eq_decide.2 (by grind)) ?_
        repeat (first | exact Le.refl _ | refine Le.skip rfl ?_)
    refine TC.condP rfl (fun h4 => ?_) (fun h4 => ?_)
    ·
      obtain ⟨e1, e2⟩ := En.find_ask h0 (k := k) (n := q) (by rw [En.ask_key (by assumption)]; decide)
      rw [En.ask_key (by assumption)] at e1
      refine TC.seq ?_
      refine TC.region ?_
      refine TL.buildRec [] [] (cl e0) rfl rfl (by kernel_rfl) rfl ?_
      refine TL.store sz30 rfl rfl rfl (hb6.ch0 hc13) (by simp [Value.cells]) (by simpa [Value.cells] using cl_one e0) (.inl rfl) (fun ws1 hbs1 hcs1 hzs1 => ?_)
      replace hbs1 : Has ws1 w.heap.size (cl e0).toArray 30 (0, 0) := hbs1.setAll rfl
      refine TL.assign rfl rfl ?_
      refine TL.assign rfl rfl ?_
      refine TL.done ?_
      refine Thn.go ?_
      refine TC.ret ?_
      refine Thn.ret ?_
      refine Ends.cell3 (cl e0) (.inl rfl) rfl ag30 rfl rfl (fun j _ => by rw [hbs1.cell, Nat.zero_add, List.getElem?_toArray]) rfl rfl ?_
      exact ⟨by rw [e1, e2]; rfl, q13.then1 hcs1 (Nat.le_refl _)⟩
    ·
      refine TC.skip ?_
      refine Thn.go ?_
      refine TC.seq ?_
      refine TC.regionBool (d := 32) (p := (q < 0 ∨ 2147483647 < q)) (fun K5 hK5 => ?_) ?_
      ·
        refine TL.move rfl rfl ?_
        refine TL.lss rfl rfl rfl ?_
        refine TL.em (fun e28 => ?_) (fun e28 => ?_)
        ·
          refine TL.move rfl rfl ?_
          refine TL.guardNo (d := 29) rfl rfl rfl rfl rfl ?_
          refine TL.guardNo (d := 29) rfl rfl rfl rfl rfl ?_
          refine TL.pickT rfl rfl rfl rfl ?_
          refine TL.done ?_
          refine hK5 _ ?_
          refine Le.here rfl (by first | exact decide_eq_true (by omega) | exact decide_eq_false (by omega) | exact decide_eq_decide.2 (by omega) | exact decide_eq_true (by grind) | exact decide_eq_false (by grind) | exact decide_eq_decide.2 (by grind)) ?_
          repeat (first | exact Le.refl _ | refine Le.skip rfl ?_)
        ·
          refine TL.move rfl rfl ?_
          refine TL.guardYes (d := 29) rfl rfl rfl ?_
          refine TL.move rfl rfl ?_
          refine TL.guardYes (d := 29) rfl rfl rfl ?_
          refine TL.gtr rfl rfl rfl ?_
          refine TL.pickF rfl rfl rfl rfl ?_
          refine TL.done ?_
          refine hK5 _ ?_
          refine Le.here rfl (by first | exact decide_eq_true (by omega) | exact decide_eq_false (by omega) | exact decide_eq_decide.2 (by omega) | exact decide_eq_true (by grind) | exact decide_eq_false (by grind) | exact decide_eq_decide.2 (by grind)) ?_
          repeat (first | exact Le.refl _ | refine Le.skip rfl ?_)
      refine TC.condP rfl (fun h7 => ?_) (fun h7 => ?_)
      ·
        obtain ⟨e1, e2⟩ := En.find_ask h0 (k := k) (n := q) (by rw [En.ask_arg (by assumption) (by assumption)]; decide)
        rw [En.ask_arg (by assumption) (by assumption)] at e1
        refine TC.seq ?_
        refine TC.region ?_
        refine TL.buildRec [] [] (cl e0) rfl rfl (by kernel_rfl) rfl ?_
        refine TL.store sz30 rfl rfl rfl (hb6.ch0 hc13) (by simp [Value.cells]) (by simpa [Value.cells] using cl_one e0) (.inl rfl) (fun ws1 hbs1 hcs1 hzs1 => ?_)
        replace hbs1 : Has ws1 w.heap.size (cl e0).toArray 30 (0, 0) := hbs1.setAll rfl
        refine TL.assign rfl rfl ?_
        refine TL.assign rfl rfl ?_
        refine TL.done ?_
        refine Thn.go ?_
        refine TC.ret ?_
        refine Thn.ret ?_
        refine Ends.cell3 (cl e0) (.inl rfl) rfl ag30 rfl rfl (fun j _ => by rw [hbs1.cell, Nat.zero_add, List.getElem?_toArray]) rfl rfl ?_
        exact ⟨by rw [e1, e2]; rfl, q13.then1 hcs1 (Nat.le_refl _)⟩
      ·
        obtain ⟨e1, e2⟩ := En.find_ok h0 (k := k) (n := q) (En.ask_ok (by assumption) (by assumption))
        refine TC.skip ?_
        refine Thn.go ?_
        refine TC.seq ?_
        refine TC.region ?_
        refine TL.move rfl rfl ?_
        refine TL.move rfl rfl ?_
        refine TL.move rfl rfl ?_
        refine TL.call can31 rfl rfl (fn31 _ l k q w13 (ha.ch0 q13)) (fun v38 w38 hr38 => ?_)
        obtain ⟨rfl, hc38⟩ := hr38
        obtain ⟨y, hy⟩ : ∃ y, (En.newest l k q).getD e0 = y := ⟨_, rfl⟩
        rw [hy]
        refine TL.move rfl rfl ?_
        refine TL.extract rfl rfl rfl ?_
        refine TL.extract rfl rfl rfl ?_
        refine TL.alloc ze30 rfl (fun w10 hb10 hc10 hz10 => ?_)
        refine TL.store sz30 rfl rfl rfl hb10 (by simp [Value.cells]) (by simpa [Value.cells] using cl_one y) (.inl rfl) (fun ws1 hbs1 hcs1 hzs1 => ?_)
        replace hbs1 : Has ws1 w38.heap.size (cl y).toArray 30 (0, 0) := hbs1.setAll rfl
        have k10 : Ch [] w38 ws1 := hc10.then1 hcs1 (Nat.le_refl _)
        refine TL.assign rfl rfl ?_
        refine TL.done ?_
        refine Thn.go ?_
        refine TC.seq ?_
        refine TC.region ?_
        refine TL.loadAgg (cl y) ag30 rfl rfl (fun j _ => by rw [hbs1.cell, Nat.zero_add, List.getElem?_toArray]) rfl ?_
        refine TL.move rfl rfl ?_
        refine TL.store sz30 rfl rfl rfl (((hb6.ch0 hc13).ch0 hc38).ch0 k10) (by simp [Value.cells]) (by simpa [Value.cells] using cl_one y) (.inl rfl) (fun ws2 hbs2 hcs2 hzs2 => ?_)
        replace hbs2 : Has ws2 w.heap.size (cl y).toArray 30 (0, 0) := hbs2.setAll rfl
        refine TL.assign rfl rfl ?_
        refine TL.assign rfl rfl ?_
        refine TL.done ?_
        refine Thn.go ?_
        refine TC.ret ?_
        refine Ends.cell3 (cl y) (.inl rfl) rfl ag30 rfl rfl (fun j _ => by rw [hbs2.cell, Nat.zero_add, List.getElem?_toArray]) rfl rfl ?_
        exact ⟨by rw [e1, e2, hy]; rfl, (q13.trans0 (hc38.trans0 k10)).then1 hcs2 (Nat.le_refl _)⟩

