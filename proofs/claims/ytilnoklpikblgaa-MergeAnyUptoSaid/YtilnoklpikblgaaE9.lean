/-
  Walks through the given program: each theorem fnN says what the call of function N of the translation hands back, for all arguments that its premises describe, and that nothing that was there has turned.
-/
import Derived.Test.YtilnoklpikblgaaE8
namespace Go.Proofs.Ytilnoklpikblgaa
open Go.Lane

theorem Rd.recs {w : World} {v : Value} {n : Nat} {cs : List Value} (h : Rd w v 4 n cs) (l : List En.Entry) (hn : n = l.length) (hcs : cs = l.flatMap cl) : Rd w v 4 l.length (l.flatMap cl) := by subst hn; subst hcs; exact h

theorem fn21 (av : Value) (l : List En.Entry) (q : Int) (last : Bool) (w : World) (ha : Rd w av 4 l.length (l.flatMap cl)) : Rets Try.prog 21 #[av, .int .i64 q, .bool last] w (fun r w' => ∃ o, r = .tuple #[o, .int .i64 (En.thinE l q : Int)] ∧ Own w' w.heap.size 32 4 o (En.thinL l q last).length ((En.thinL l q last).flatMap cl) ∧ Ch [] w w') := by
  obtain ⟨ad, c, rfl, _⟩ := ha.shape
  have hmm : maxLen = 9223372036854775807 := rfl
  have hmx : l.length ≤ 9223372036854775807 := ha.nlt
  have hcap := ha.cap
  refine Rets.of (n := 78) (vs := [_, _, _]) Try.func21 rfl rfl rfl ?_
  refine TC.seq ?_
  refine TC.region ?_
  refine TL.assign rfl rfl ?_
  refine TL.assign rfl rfl ?_
  refine TL.done ?_
  refine Thn.go ?_
  refine TC.seq ?_
  refine TC.seq ?_
  refine TC.region ?_
  refine TL.move rfl rfl ?_
  refine TL.lenSlice Try.underlying25 rfl rfl ?_
  refine TL.gtr rfl rfl rfl ?_
  refine TL.done ?_
  refine Thn.go ?_
  refine TC.condP rfl (fun h1 => ?_) (fun h1 => ?_)
  ·
    obtain ⟨e1, e2⟩ := En.thin_many (q := q) (t := last) (show 16384 < l.length by omega)
    refine TC.seq ?_
    refine TC.region ?_
    refine TL.assign rfl rfl ?_
    refine TL.assign rfl rfl ?_
    refine TL.done ?_
    refine Thn.go ?_
    refine TC.ret ?_
    refine Thn.ret ?_
    refine Ends.ret [6, 7] rfl rfl ?_
    exact ⟨_, by rw [e1]; rfl, by rw [e2]; exact World.ownsRow_nil _ _ _ _, Ch.refl _ _⟩
  ·
    have hmax : ¬ 16384 < l.length := by omega
    refine TC.skip ?_
    refine Thn.go ?_
    refine TC.seq ?_
    refine TC.seq ?_
    refine TC.region ?_
    refine TL.move rfl rfl ?_
    refine TL.lenSlice Try.underlying25 rfl rfl ?_
    refine TL.move rfl rfl ?_
    refine TL.done ?_
    refine Thn.go ?_
    refine TC.block ?_
    refine TC.loop1 (fun (i : Nat) => [(0, .slice ad l.length c), (1, .int .i64 q), (2, .bool last), (17, .slice ad l.length c), (18, .int .i64 (l.length : Int)), (19, .int .i64 (i : Int))]) (fun i w' => i ≤ l.length ∧ (∀ j, j < i → En.badAt l j = 0) ∧ Ch [] w w') (fun i => l.length - i) 0 (by repeat (first | exact trivial | refine ⟨rfl, ?_⟩)) (⟨by omega, by intro j hj; omega, Ch.refl _ _⟩) (fun i w' hH => ?_)
    obtain ⟨hi, hg, hch⟩ := hH
    refine TC.seq ?_
    refine TC.region ?_
    refine TL.lss rfl rfl rfl ?_
    refine TL.done ?_
    refine Thn.go ?_
    refine TC.seq ?_
    refine TC.condP rfl (fun h2 => ?_) (fun h2 => ?_)
    ·
      have hil : i < l.length := by omega
      have hwin := En.window hil hg
      have hwl : ((l.take (i + 1)).drop (i - 1)).length = i + 1 - (i - 1) := by rw [List.length_drop, List.length_take]; omega
      have hpart : Rd w' (.slice (adv ad c (i - 1) 4) (i + 1 - (i - 1)) (c - (i - 1))) 4 ((l.take (i + 1)).drop (i - 1)).length (((l.take (i + 1)).drop (i - 1)).flatMap cl) := Rd.recs ((ha.ch0 hch).part (i := i - 1) (j := i + 1) (by omega) (by omega)) _ hwl.symm (by rw [rows_drop cl_len, rows_take cl_len, List.drop_take])
      refine TC.skip ?_
      refine Thn.go ?_
      refine TC.seq ?_
      refine TC.block ?_
      refine TC.seq ?_
      refine TC.region ?_
      refine TL.move rfl rfl ?_
      refine TL.assign rfl rfl ?_
      refine TL.done ?_
      refine Thn.go ?_
      refine TC.seq ?_
      refine TC.region ?_
      refine TL.move rfl rfl ?_
      refine TL.move rfl rfl ?_
      refine TL.sub_i64 rfl rfl (by omega) (by omega) rfl ?_
      refine TL.max2 rfl rfl rfl ?_
      refine TL.move rfl rfl ?_
      refine TL.add_i64 rfl rfl (by omega) (by omega) rfl ?_
      refine TL.sliceLoHi (i - 1) (i + 1) sl25 rfl rfl rfl (by omega) rfl (by omega) (by omega) rfl ?_
      refine TL.call can27 rfl rfl (fn27 _ _ w' hpart) (fun v29 w29 hr29 => ?_)
      rw [hwin] at hr29
      obtain ⟨rfl, hc29⟩ := hr29
      refine TL.assign rfl rfl ?_
      refine TL.done ?_
      refine Thn.go ?_
      refine TC.seq ?_
      refine TC.region ?_
      refine TL.move rfl rfl ?_
      refine TL.neq rfl rfl rfl ?_
      refine TL.done ?_
      refine Thn.go ?_
      refine TC.condP rfl (fun h3 => ?_) (fun h3 => ?_)
      ·
        obtain ⟨e1, e2⟩ := En.thin_bad (q := q) (t := last) hmax hil hg (by omega)
        refine TC.seq ?_
        refine TC.region ?_
        refine TL.move rfl rfl ?_
        refine TL.assign rfl rfl ?_
        refine TL.assign rfl rfl ?_
        refine TL.done ?_
        refine Thn.go ?_
        refine TC.ret ?_
        refine Blk.ret ?_
        refine Thn.ret ?_
        refine Lp.ret ?_
        refine Blk.ret ?_
        refine Thn.ret ?_
        refine Ends.ret [6, 7] rfl rfl ?_
        exact ⟨_, by rw [e1]; rfl, by rw [e2]; exact World.ownsRow_nil _ _ _ _, hch.trans0 hc29⟩
      ·
        refine TC.skip ?_
        refine Blk.go ?_
        refine Thn.go ?_
        refine TC.region ?_
        refine TL.add_i64 rfl rfl (by omega) (by omega) rfl ?_
        refine TL.move rfl rfl ?_
        refine TL.done ?_
        refine Lp.go (i + 1) (by repeat (first | exact trivial | refine ⟨rfl, ?_⟩)) ?_ (by first | omega | (dsimp only; omega))
        refine ⟨by omega, fun j hj => ?_, hch.trans0 hc29⟩
        rcases Nat.lt_or_ge j i with h | h
        · exact hg j h
        · rw [show j = i by omega]; omega
    ·
      have hil : i = l.length := by omega
      subst hil
      have hs := En.bads_rise hg
      refine TC.exit ?_
      refine Thn.exit ?_
      refine Lp.exit ?_
      refine Blk.hit ?_
      refine Thn.go ?_
      refine TC.seq ?_
      refine TC.seq ?_
      refine TC.region ?_
      refine TL.move rfl rfl ?_
      refine TL.call can37 rfl rfl (fn37 q w') (fun v35 w35 hr35 => ?_)
      obtain ⟨rfl, rfl⟩ := hr35
      refine TL.assign rfl rfl ?_
      refine TL.done ?_
      refine Thn.go ?_
      refine TC.seq ?_
      refine TC.region ?_
      refine TL.move rfl rfl ?_
      refine TL.neq rfl rfl rfl ?_
      refine TL.done ?_
      refine Thn.go ?_
      refine TC.condP rfl (fun h4 => ?_) (fun h4 => ?_)
      ·
        have hq : q < 0 ∨ 2147483647 < q := Decidable.not_not.1 (fun h => by rw [En.argE, if_neg h] at *; contradiction)
        obtain ⟨e1, e2⟩ := En.thin_arg (t := last) hmax hg hq
        refine TC.seq ?_
        refine TC.region ?_
        refine TL.move rfl rfl ?_
        refine TL.assign rfl rfl ?_
        refine TL.assign rfl rfl ?_
        refine TL.done ?_
        refine Thn.go ?_
        refine TC.ret ?_
        refine Thn.ret ?_
        refine Ends.ret [6, 7] rfl rfl ?_
        exact ⟨_, by rw [e1, En.argE, if_pos hq]; rfl, by rw [e2]; exact World.ownsRow_nil _ _ _ _, hch⟩
      ·
        have hq : ¬ (q < 0 ∨ 2147483647 < q) := fun h => by rw [En.argE, if_pos h] at *; contradiction
        obtain ⟨e1, e2⟩ := En.thin_ok (t := last) hmax hg hq
        refine TC.skip ?_
        refine Thn.go ?_
        refine TC.seq ?_
        refine TC.region ?_
        refine TL.assign rfl rfl ?_
        refine TL.done ?_
        refine Thn.go ?_
        refine TC.seq ?_
        refine TC.seq ?_
        refine TC.region ?_
        refine TL.move rfl rfl ?_
        refine TL.move rfl rfl ?_
        refine TL.call can38 rfl rfl (fn38 _ l q hs (by omega) _ (ha.ch0 hch)) (fun v41 w41 hr41 => ?_)
        obtain ⟨⟨a27, c27, rfl⟩, hv27, hc27⟩ := hr41
        have hrd := (ha.ch0 hch).ch0 hc27
        refine TL.lenSlice Try.underlying67 rfl rfl ?_
        refine TL.move rfl rfl ?_
        refine TL.done ?_
        refine Thn.go ?_
        refine TC.block ?_
        refine TC.loop2 (fun (i : Nat) (ov : Value) => [(0, .slice ad l.length c), (1, .int .i64 q), (2, .bool last), (11, ov), (41, .slice a27 l.length c27), (42, .int .i64 (l.length : Int)), (43, .int .i64 (i : Int))]) (fun i ov w' => i ≤ l.length ∧ Own w' w41.heap.size 32 4 ov ((l.take i).filter (fun x => decide (q < x.seq ∨ (En.top l q x ∧ ¬ (last = true ∧ x.gone = true))))).length (((l.take i).filter (fun x => decide (q < x.seq ∨ (En.top l q x ∧ ¬ (last = true ∧ x.gone = true))))).flatMap cl) ∧ Ch [] w41 w') (fun i _ => l.length - i) 0 (.slice none 0 0) (by repeat (first | exact trivial | refine ⟨rfl, ?_⟩)) (⟨by omega, World.ownsRow_nil _ _ _ _, Ch.refl _ _⟩) (fun i ov w4 hH => ?_)
        obtain ⟨hi, hown, hch4⟩ := hH
        have hfl := En.filt_len l (fun x => decide (q < x.seq ∨ (En.top l q x ∧ ¬ (last = true ∧ x.gone = true)))) i
        refine TC.seq ?_
        refine TC.region ?_
        refine TL.lss rfl rfl rfl ?_
        refine TL.done ?_
        refine Thn.go ?_
        refine TC.seq ?_
        refine TC.condP rfl (fun h5 => ?_) (fun h5 => ?_)
        ·
          have hil : i < l.length := by omega
          have hfy := En.filt_yes (f := fun x => decide (q < x.seq ∨ (En.top l q x ∧ ¬ (last = true ∧ x.gone = true)))) hil
          have hfn := En.filt_no (f := fun x => decide (q < x.seq ∨ (En.top l q x ∧ ¬ (last = true ∧ x.gone = true)))) hil
          obtain ⟨b1, o1, rfl, hce⟩ := recIn hrd hil
          obtain ⟨g27, k27, e27, hmk⟩ := marksIn hv27 (by omega)
          cases e27
          have hmk := hmk i hil _ hch4
          obtain ⟨x, hx⟩ : ∃ x, En.rec l i = x := ⟨_, rfl⟩
          rw [hx] at hce hfy hfn hmk
          refine TC.skip ?_
          refine Thn.go ?_
          refine TC.seq ?_
          refine TC.block ?_
          refine TC.seq ?_
          refine TC.region ?_
          refine TL.move rfl rfl ?_
          refine TL.indexAddr (i) sl67 rfl rfl (by first | rfl | omega) (by omega) rfl ?_
          refine TL.load pl4 rfl (hmk) rfl ?_
          refine TL.assign rfl rfl ?_
          refine TL.assign rfl rfl ?_
          refine TL.done ?_
          refine Thn.go ?_
          refine TC.regionBool (d := 68) (p := (q < x.seq ∨ (En.top l q x ∧ ¬ (last = true ∧ x.gone = true)))) (fun K6 hK6 => ?_) ?_
          ·
            refine TL.move rfl rfl ?_
            refine TL.move rfl rfl ?_
            refine TL.indexAddr (i) sl25 rfl rfl (by first | rfl | omega) (by omega) rfl ?_
            refine TL.fieldAddr fd32k2 rfl rfl ?_
            refine TL.load pl3 rfl ((show _ = some (Value.int .i64 x.seq) from hce _ hch4 2 (by decide))) rfl ?_
            refine TL.move rfl rfl ?_
            refine TL.gtr rfl rfl rfl ?_
            refine TL.em (fun e54 => ?_) (fun e54 => ?_)
            ·
              refine TL.move rfl rfl ?_
              refine TL.guardNo (d := 55) rfl rfl rfl rfl rfl ?_
              refine TL.guardNo (d := 55) rfl rfl rfl rfl rfl ?_
              refine TL.guardUndef (d := 57) rfl rfl rfl rfl ?_
              refine TL.guardUndef (d := 57) rfl rfl rfl rfl ?_
              refine TL.guardUndef (d := 59) rfl rfl rfl rfl ?_
              refine TL.guardUndef (d := 59) rfl rfl rfl rfl ?_
              refine TL.guardUndef (d := 59) rfl rfl rfl rfl ?_
              refine TL.guardUndef (d := 59) rfl rfl rfl rfl ?_
              refine TL.guardUndef (d := 59) rfl rfl rfl rfl ?_
              refine TL.guardUndef (d := 57) rfl rfl rfl rfl ?_
              refine TL.guardUndef (d := 57) rfl rfl rfl rfl ?_
              refine TL.guardNo (d := 55) rfl rfl rfl rfl rfl ?_
              refine TL.pickT rfl rfl rfl rfl ?_
              refine TL.done ?_
              refine hK6 _ ?_
              refine Le.here rfl (by rw [Bool.eq_iff_iff, decide_eq_true_iff]; simp_all <;> (intros; exfalso; omega)) ?_
              repeat (first | exact Le.refl _ | refine Le.skip rfl ?_)
            ·
              refine TL.move rfl rfl ?_
              refine TL.guardYes (d := 55) rfl rfl rfl ?_
              refine TL.move rfl rfl ?_
              refine TL.emB (fun e56 => ?_) (fun e56 => ?_)
              ·
                refine TL.guardYes (d := 55) rfl rfl rfl ?_
                refine TL.move rfl rfl ?_
                refine TL.guardYes (d := 57) rfl rfl rfl ?_
                refine TL.move rfl rfl ?_
                refine TL.emB (fun e58 => ?_) (fun e58 => ?_)
                ·
                  refine TL.guardYes (d := 57) rfl rfl rfl ?_
                  refine TL.move rfl rfl ?_
                  refine TL.guardYes (d := 59) rfl rfl rfl ?_
                  refine TL.move rfl rfl ?_
                  refine TL.guardYes (d := 59) rfl rfl rfl ?_
                  refine TL.move rfl rfl ?_
                  refine TL.guardYes (d := 59) rfl rfl rfl ?_
                  refine TL.indexAddr (i) sl25 rfl rfl (by first | rfl | omega) (by omega) rfl ?_
                  refine TL.guardYes (d := 59) rfl rfl rfl ?_
                  refine TL.fieldAddr fd32k3 rfl rfl ?_
                  refine TL.guardYes (d := 59) rfl rfl rfl ?_
                  refine TL.load pl4 rfl ((show _ = some (Value.bool x.gone) from hce _ hch4 3 (by decide))) rfl ?_
                  refine TL.guardYes (d := 57) rfl rfl rfl ?_
                  refine TL.pickT rfl rfl rfl rfl ?_
                  refine TL.guardYes (d := 57) rfl rfl rfl ?_
                  refine TL.not rfl rfl ?_
                  refine TL.guardYes (d := 55) rfl rfl rfl ?_
                  refine TL.pickT rfl rfl rfl rfl ?_
                  refine TL.pickF rfl rfl rfl rfl ?_
                  refine TL.done ?_
                  refine hK6 _ ?_
                  refine Le.here rfl (by rw [Bool.eq_iff_iff, decide_eq_true_iff]; simp_all <;> (intros; exfalso; omega)) ?_
                  repeat (first | exact Le.refl _ | refine Le.skip rfl ?_)
                ·
                  refine TL.guardYes (d := 57) rfl rfl rfl ?_
                  refine TL.move rfl rfl ?_
                  refine TL.guardNo (d := 59) rfl rfl rfl rfl rfl ?_
                  refine TL.guardNo (d := 59) rfl rfl rfl rfl rfl ?_
                  refine TL.guardNo (d := 59) rfl rfl rfl rfl rfl ?_
                  refine TL.guardNo (d := 59) rfl rfl rfl rfl rfl ?_
                  refine TL.guardNo (d := 59) rfl rfl rfl rfl rfl ?_
                  refine TL.guardYes (d := 57) rfl rfl rfl ?_
                  refine TL.pickF rfl rfl rfl rfl ?_
                  refine TL.guardYes (d := 57) rfl rfl rfl ?_
                  refine TL.not rfl rfl ?_
                  refine TL.guardYes (d := 55) rfl rfl rfl ?_
                  refine TL.pickT rfl rfl rfl rfl ?_
                  refine TL.pickF rfl rfl rfl rfl ?_
                  refine TL.done ?_
                  refine hK6 _ ?_
                  refine Le.here rfl (by rw [Bool.eq_iff_iff, decide_eq_true_iff]; simp_all <;> (intros; exfalso; omega)) ?_
                  repeat (first | exact Le.refl _ | refine Le.skip rfl ?_)
              ·
                refine TL.guardYes (d := 55) rfl rfl rfl ?_
                refine TL.move rfl rfl ?_
                refine TL.guardNo (d := 57) rfl rfl rfl rfl rfl ?_
                refine TL.guardNo (d := 57) rfl rfl rfl rfl rfl ?_
                refine TL.guardUndef (d := 59) rfl rfl rfl rfl ?_
                refine TL.guardUndef (d := 59) rfl rfl rfl rfl ?_
                refine TL.guardUndef (d := 59) rfl rfl rfl rfl ?_
                refine TL.guardUndef (d := 59) rfl rfl rfl rfl ?_
                refine TL.guardUndef (d := 59) rfl rfl rfl rfl ?_
                refine TL.guardNo (d := 57) rfl rfl rfl rfl rfl ?_
                refine TL.guardNo (d := 57) rfl rfl rfl rfl rfl ?_
                refine TL.guardYes (d := 55) rfl rfl rfl ?_
                refine TL.pickF rfl rfl rfl rfl ?_
                refine TL.pickF rfl rfl rfl rfl ?_
                refine TL.done ?_
                refine hK6 _ ?_
                refine Le.here rfl (by rw [Bool.eq_iff_iff, decide_eq_true_iff]; simp_all <;> (intros; exfalso; omega)) ?_
                repeat (first | exact Le.refl _ | refine Le.skip rfl ?_)
          refine TC.condP rfl (fun h8 => ?_) (fun h8 => ?_)
          ·
            have htop : q < x.seq ∨ (En.top l q x ∧ ¬ (last = true ∧ x.gone = true)) := by assumption
            refine TC.region ?_
            refine TL.move rfl rfl ?_
            refine TL.move rfl rfl ?_
            refine TL.move rfl rfl ?_
            refine TL.indexAddr (i) sl25 rfl rfl (by first | rfl | omega) (by omega) rfl ?_
            refine TL.loadAgg (cl x) ag32 rfl rfl (fun j hj => hce _ hch4 j hj) rfl ?_
            refine TL.buildSlice [.tmp 73] sl25 rfl rfl rfl (by decide) (by first | simp [Value.cells]; done | simp [Value.cells, cl_len]; done) rfl (fun w74 hb74 hc74 hz74 => ?_)
            refine TL.append sl25 rfl rfl rfl (hown.ch0 hc74) (News.ofRd Try.underlying25 (recOne hb74) (rows_one _)) (by omega) (by omega) (by have := (hch4.trans0 hc74).size; omega) (fun v75 w75 hv75 hc75 _ => ?_)
            refine TL.assign rfl rfl ?_
            refine TL.done ?_
            refine Blk.go ?_
            refine Thn.go ?_
            refine TC.region ?_
            refine TL.add_i64 rfl rfl (by omega) (by omega) rfl ?_
            refine TL.move rfl rfl ?_
            refine TL.done ?_
            refine Lp.go ((i + 1, v75)) (by repeat (first | exact trivial | refine ⟨rfl, ?_⟩)) ?_ (by first | omega | (dsimp only; omega))
            refine ⟨by show i + 1 ≤ l.length; omega, ?_, (hown.ch0 hc74).thenCh' (hch4.trans0 hc74) hc75 (Nat.le_refl _)⟩
            show Own w75 w41.heap.size 32 4 v75 ((l.take (i + 1)).filter _).length _
            rw [hfy (decide_eq_true htop), List.length_append, List.flatMap_append]; exact hv75
          ·
            have hno : ¬ (q < x.seq ∨ (En.top l q x ∧ ¬ (last = true ∧ x.gone = true))) := by assumption
            refine TC.skip ?_
            refine Blk.go ?_
            refine Thn.go ?_
            refine TC.region ?_
            refine TL.add_i64 rfl rfl (by omega) (by omega) rfl ?_
            refine TL.move rfl rfl ?_
            refine TL.done ?_
            refine Lp.go ((i + 1, ov)) (by repeat (first | exact trivial | refine ⟨rfl, ?_⟩)) ?_ (by first | omega | (dsimp only; omega))
            exact ⟨by show i + 1 ≤ l.length; omega, by show Own w4 w41.heap.size 32 4 ov ((l.take (i + 1)).filter _).length _; rw [hfn (decide_eq_false hno)]; exact hown, hch4⟩
        ·
          have hil : i = l.length := by omega
          subst hil
          rw [List.take_length] at hown
          refine TC.exit ?_
          refine Thn.exit ?_
          refine Lp.exit ?_
          refine Blk.hit ?_
          refine Thn.go ?_
          refine TC.seq ?_
          refine TC.region ?_
          refine TL.move rfl rfl ?_
          refine TL.assign rfl rfl ?_
          refine TL.assign rfl rfl ?_
          refine TL.done ?_
          refine Thn.go ?_
          refine TC.ret ?_
          refine Ends.ret [6, 7] rfl rfl ?_
          exact ⟨_, by rw [e1]; rfl, by rw [e2]; exact hown.base (hch.trans0 hc27).size, hch.trans0 (hc27.trans0 hch4)⟩

theorem fn25 (av : Value) (l : List En.Entry) (q : Int) (last : Bool) (w : World) (ha : Rd w av 4 l.length (l.flatMap cl)) : Rets Try.prog 25 #[av, .int .i64 q, .bool last] w (fun r w' => ∃ o, r = .tuple #[o, .int .i64 (En.thinE l q : Int)] ∧ Own w' w.heap.size 32 4 o (En.thinL l q last).length ((En.thinL l q last).flatMap cl) ∧ Ch [] w w') := by
  obtain ⟨ad, c, rfl, _⟩ := ha.shape
  have hmm : maxLen = 9223372036854775807 := rfl
  have hmx : l.length ≤ 9223372036854775807 := ha.nlt
  refine Rets.of (n := 103) (vs := [_, _, _]) Try.func25 rfl rfl rfl ?_
  refine TC.seq ?_
  refine TC.region ?_
  refine TL.assign rfl rfl ?_
  refine TL.assign rfl rfl ?_
  refine TL.done ?_
  refine Thn.go ?_
  refine TC.seq ?_
  refine TC.seq ?_
  refine TC.region ?_
  refine TL.move rfl rfl ?_
  refine TL.lenSlice Try.underlying25 rfl rfl ?_
  refine TL.gtr rfl rfl rfl ?_
  refine TL.done ?_
  refine Thn.go ?_
  refine TC.condP rfl (fun h1 => ?_) (fun h1 => ?_)
  ·
    obtain ⟨e1, e2⟩ := En.thin_many (q := q) (t := last) (show 16384 < l.length by omega)
    refine TC.seq ?_
    refine TC.region ?_
    refine TL.assign rfl rfl ?_
    refine TL.assign rfl rfl ?_
    refine TL.done ?_
    refine Thn.go ?_
    refine TC.ret ?_
    refine Thn.ret ?_
    refine Ends.ret [6, 7] rfl rfl ?_
    exact ⟨_, by rw [e1]; rfl, by rw [e2]; exact World.ownsRow_nil _ _ _ _, Ch.refl _ _⟩
  ·
    have hmax : ¬ 16384 < l.length := by omega
    refine TC.skip ?_
    refine Thn.go ?_
    refine TC.seq ?_
    refine TC.seq ?_
    refine TC.region ?_
    refine TL.assign rfl rfl ?_
    refine TL.done ?_
    refine Thn.go ?_
    refine TC.block ?_
    refine TC.loop1 (fun (i : Nat) => [(0, .slice ad l.length c), (1, .int .i64 q), (2, .bool last), (8, .int .i64 (i : Int))]) (fun i w' => i ≤ l.length ∧ (∀ j, j < i → En.badAt l j = 0) ∧ Ch [] w w') (fun i => l.length - i) 0 (by repeat (first | exact trivial | refine ⟨rfl, ?_⟩)) (⟨by omega, by intro j hj; omega, Ch.refl _ _⟩) (fun i w' hH => ?_)
    obtain ⟨hi, hg, hch⟩ := hH
    refine TC.seq ?_
    refine TC.seq ?_
    refine TC.region ?_
    refine TL.move rfl rfl ?_
    refine TL.move rfl rfl ?_
    refine TL.lenSlice Try.underlying25 rfl rfl ?_
    refine TL.lss rfl rfl rfl ?_
    refine TL.done ?_
    refine Thn.go ?_
    refine TC.condP rfl (fun h2 => ?_) (fun h2 => ?_)
    ·
      have hil : i < l.length := by omega
      obtain ⟨b1, o1, rfl, hall⟩ := recAll (ha.ch0 hch) (by omega)
      refine TC.skip ?_
      refine Thn.go ?_
      refine TC.seq ?_
      refine TC.block ?_
      refine TC.seq ?_
      refine TC.region ?_
      refine TL.move rfl rfl ?_
      refine TL.move rfl rfl ?_
      refine TL.indexAddr (i) sl25 rfl rfl (by first | rfl | omega) (by omega) rfl ?_
      refine TL.loadAgg (cl (En.rec l i)) ag32 rfl rfl (fun j hj => hall i hil _ (Ch.refl _ _) j hj) rfl ?_
      refine TL.call can40 rfl rfl (fn40 (En.rec l i) w') (fun v27 w27 hr27 => ?_)
      obtain ⟨rfl, hc27⟩ := hr27
      refine TL.assign rfl rfl ?_
      refine TL.done ?_
      refine Thn.go ?_
      refine TC.seq ?_
      refine TC.seq ?_
      refine TC.region ?_
      refine TL.move rfl rfl ?_
      refine TL.neq rfl rfl rfl ?_
      refine TL.done ?_
      refine Thn.go ?_
      refine TC.condP rfl (fun h3 => ?_) (fun h3 => ?_)
      ·
        have hb : En.one (En.rec l i) ≠ 0 := by omega
        have hbe := En.bad_one hb
        obtain ⟨e1, e2⟩ := En.thin_bad (q := q) (t := last) hmax hil hg (by omega)
        refine TC.seq ?_
        refine TC.region ?_
        refine TL.move rfl rfl ?_
        refine TL.assign rfl rfl ?_
        refine TL.assign rfl rfl ?_
        refine TL.done ?_
        refine Thn.go ?_
        refine TC.ret ?_
        refine Thn.ret ?_
        refine Blk.ret ?_
        refine Thn.ret ?_
        refine Lp.ret ?_
        refine Blk.ret ?_
        refine Thn.ret ?_
        refine Ends.ret [6, 7] rfl rfl ?_
        exact ⟨_, by rw [e1, hbe]; rfl, by rw [e2]; exact World.ownsRow_nil _ _ _ _, hch.trans0 hc27⟩
      ·
        have hb : ¬ En.one (En.rec l i) ≠ 0 := by omega
        refine TC.skip ?_
        refine Thn.go ?_
        refine TC.cut0 ([(0, .slice (some ⟨b1, o1, none⟩) l.length c), (1, .int .i64 q), (2, .bool last), (8, .int .i64 (i : Int)), (45, .bool (decide (0 < i ∧ ¬ En.less (En.rec l (i - 1)) (En.rec l i))))]) (fun w3 => Ch [] w27 w3) (fun K4 hK4 => ?_) (fun w3 hH => ?_)
        ·
          refine TC.regionQ (fun w4 => Ch [] w27 w4) mixed0 (by kernel_rfl) (Ch.drew [] _) ?_
          refine TQ.via rfl rfl rfl rfl (fun w2 hw2 => TL.move rfl rfl (TL.done ⟨rfl, rfl⟩)) ?_
          refine TQ.via rfl rfl rfl rfl (fun w2 hw2 => TL.gtr rfl rfl rfl (TL.done ⟨rfl, rfl⟩)) ?_
          refine TQ.em (fun e32 => ?_) (fun e32 => ?_)
          ·
            refine TQ.via rfl rfl rfl rfl (fun w2 hw2 => TL.move rfl rfl (TL.done ⟨rfl, rfl⟩)) ?_
            refine TQ.guardYes (d := 33) rfl rfl rfl ?_
            refine TQ.via rfl rfl rfl rfl (fun w2 hw2 => TL.move rfl rfl (TL.done ⟨rfl, rfl⟩)) ?_
            refine TQ.guardYes (d := 33) rfl rfl rfl ?_
            refine TQ.via rfl rfl rfl rfl (fun w2 hw2 => TL.move rfl rfl (TL.done ⟨rfl, rfl⟩)) ?_
            refine TQ.guardYes (d := 33) rfl rfl rfl ?_
            refine TQ.via rfl rfl rfl rfl (fun w2 hw2 => TL.sub_i64 rfl rfl (by omega) (by omega) rfl (TL.done ⟨rfl, rfl⟩)) ?_
            refine TQ.guardYes (d := 33) rfl rfl rfl ?_
            refine TQ.via rfl rfl rfl rfl (fun w2 hw2 => TL.indexAddr (i - 1) sl25 rfl rfl (by first | rfl | omega) (by omega) rfl (TL.done ⟨rfl, rfl⟩)) ?_
            refine TQ.guardYes (d := 33) rfl rfl rfl ?_
            refine TQ.via rfl rfl rfl rfl (fun w2 hw2 => TL.loadAgg (cl (En.rec l (i - 1))) ag32 rfl rfl (fun j hj => hall (i - 1) (by omega) _ (hc27.trans0 hw2) j hj) rfl (TL.done ⟨rfl, rfl⟩)) ?_
            refine TQ.guardYes (d := 33) rfl rfl rfl ?_
            refine TQ.via rfl rfl rfl rfl (fun w2 hw2 => TL.move rfl rfl (TL.done ⟨rfl, rfl⟩)) ?_
            refine TQ.guardYes (d := 33) rfl rfl rfl ?_
            refine TQ.via rfl rfl rfl rfl (fun w2 hw2 => TL.move rfl rfl (TL.done ⟨rfl, rfl⟩)) ?_
            refine TQ.guardYes (d := 33) rfl rfl rfl ?_
            refine TQ.via rfl rfl rfl rfl (fun w2 hw2 => TL.indexAddr (i) sl25 rfl rfl (by first | rfl | omega) (by omega) rfl (TL.done ⟨rfl, rfl⟩)) ?_
            refine TQ.guardYes (d := 33) rfl rfl rfl ?_
            refine TQ.via rfl rfl rfl rfl (fun w2 hw2 => TL.loadAgg (cl (En.rec l i)) ag32 rfl rfl (fun j hj => hall i hil _ (hc27.trans0 hw2) j hj) rfl (TL.done ⟨rfl, rfl⟩)) ?_
            refine TQ.guardYes (d := 33) rfl rfl rfl ?_
            refine TQ.call (.bool (decide (En.less (En.rec l (i - 1)) (En.rec l i)))) can36 rfl rfl (fun w2 hw2 => (fn36 (En.rec l (i - 1)) (En.rec l i) w2).mono (fun _ _ ⟨q1, q2⟩ => ⟨q1, hw2.trans0 q2⟩)) ?_
            refine TQ.guardYes (d := 33) rfl rfl rfl ?_
            refine TQ.via rfl rfl rfl rfl (fun w2 hw2 => TL.notP rfl rfl (TL.done ⟨rfl, rfl⟩)) ?_
            refine TQ.via rfl rfl rfl rfl (fun w2 hw2 => TL.pickT rfl rfl rfl rfl (TL.done ⟨rfl, rfl⟩)) ?_
            refine TQ.done (fun w2 hw2 => ?_)
            exact hK4  _ _ (by repeat (first | exact trivial | refine ⟨rfl, ?_⟩ | refine ⟨congrArg (fun b => some (Value.bool b)) (by first | exact (decide_eq_true (by grind)).symm | exact (decide_eq_false (by grind)).symm | exact decide_eq_decide.2 (by grind) | exact decide_eq_true (by grind) | exact decide_eq_false (by grind) | (exfalso; grind)), ?_⟩)) (hw2)
          ·
            refine TQ.via rfl rfl rfl rfl (fun w2 hw2 => TL.move rfl rfl (TL.done ⟨rfl, rfl⟩)) ?_
            refine TQ.guardNo (d := 33) rfl rfl rfl rfl rfl ?_
            refine TQ.guardNo (d := 33) rfl rfl rfl rfl rfl ?_
            refine TQ.guardNo (d := 33) rfl rfl rfl rfl rfl ?_
            refine TQ.guardNo (d := 33) rfl rfl rfl rfl rfl ?_
            refine TQ.guardNo (d := 33) rfl rfl rfl rfl rfl ?_
            refine TQ.guardNo (d := 33) rfl rfl rfl rfl rfl ?_
            refine TQ.guardNo (d := 33) rfl rfl rfl rfl rfl ?_
            refine TQ.guardNo (d := 33) rfl rfl rfl rfl rfl ?_
            refine TQ.guardNo (d := 33) rfl rfl rfl rfl rfl ?_
            refine TQ.guardNo (d := 33) rfl rfl rfl rfl rfl ?_
            refine TQ.guardNo (d := 33) rfl rfl rfl rfl rfl ?_
            refine TQ.via rfl rfl rfl rfl (fun w2 hw2 => TL.pickF rfl rfl rfl rfl (TL.done ⟨rfl, rfl⟩)) ?_
            refine TQ.done (fun w2 hw2 => ?_)
            exact hK4  _ _ (by repeat (first | exact trivial | refine ⟨rfl, ?_⟩ | refine ⟨congrArg (fun b => some (Value.bool b)) (by first | exact (decide_eq_true (by grind)).symm | exact (decide_eq_false (by grind)).symm | exact decide_eq_decide.2 (by grind) | exact decide_eq_true (by grind) | exact decide_eq_false (by grind) | (exfalso; grind)), ?_⟩)) (hw2)
        ·
          refine TC.condP rfl (fun h6 => ?_) (fun h6 => ?_)
          ·
            have hbe := En.bad_order hb (by assumption)
            obtain ⟨e1, e2⟩ := En.thin_bad (q := q) (t := last) hmax hil hg (by omega)
            refine TC.seq ?_
            refine TC.region ?_
            refine TL.assign rfl rfl ?_
            refine TL.assign rfl rfl ?_
            refine TL.done ?_
            refine Thn.go ?_
            refine TC.ret ?_
            refine Blk.ret ?_
            refine Thn.ret ?_
            refine Lp.ret ?_
            refine Blk.ret ?_
            refine Thn.ret ?_
            refine Ends.ret [6, 7] rfl rfl ?_
            exact ⟨_, by rw [e1, hbe]; rfl, by rw [e2]; exact World.ownsRow_nil _ _ _ _, (hch.trans0 hc27).trans0 hH⟩
          ·
            have hbe := En.bad_ok hb (by assumption)
            refine TC.skip ?_
            refine Blk.go ?_
            refine Thn.go ?_
            refine TC.region ?_
            refine TL.move rfl rfl ?_
            refine TL.add_i64 rfl rfl (by omega) (by omega) rfl ?_
            refine TL.assign rfl rfl ?_
            refine TL.done ?_
            refine Lp.go (i + 1) (by repeat (first | exact trivial | refine ⟨rfl, ?_⟩)) ?_ (by first | omega | (dsimp only; omega))
            refine ⟨by omega, fun j hj => ?_, (hch.trans0 hc27).trans0 hH⟩
            rcases Nat.lt_or_ge j i with h | h
            · exact hg j h
            · rw [show j = i by omega]; exact hbe
    ·
      have hil : i = l.length := by omega
      subst hil
      have hs := En.bads_rise hg
      refine TC.exit ?_
      refine Thn.exit ?_
      refine Lp.exit ?_
      refine Blk.hit ?_
      refine Thn.go ?_
      refine TC.seq ?_
      refine TC.regionBool (d := 51) (p := (q < 0 ∨ 2147483647 < q)) (fun K7 hK7 => ?_) ?_
      ·
        refine TL.move rfl rfl ?_
        refine TL.lss rfl rfl rfl ?_
        refine TL.em (fun e47 => ?_) (fun e47 => ?_)
        ·
          refine TL.move rfl rfl ?_
          refine TL.guardNo (d := 48) rfl rfl rfl rfl rfl ?_
          refine TL.guardNo (d := 48) rfl rfl rfl rfl rfl ?_
          refine TL.pickT rfl rfl rfl rfl ?_
          refine TL.done ?_
          refine hK7 _ ?_
          refine Le.here rfl (by first | exact decide_eq_true (by omega) | exact decide_eq_false (by omega) | exact decide_eq_decide.2 (by omega) | exact decide_eq_true (by grind) | exact decide_eq_false (by grind) | exact decide_eq_decide.2 (by grind)) ?_
          repeat (first | exact Le.refl _ | refine Le.skip rfl ?_)
        ·
          refine TL.move rfl rfl ?_
          refine TL.guardYes (d := 48) rfl rfl rfl ?_
          refine TL.move rfl rfl ?_
          refine TL.guardYes (d := 48) rfl rfl rfl ?_
          refine TL.gtr rfl rfl rfl ?_
          refine TL.pickF rfl rfl rfl rfl ?_
          refine TL.done ?_
          refine hK7 _ ?_
          refine Le.here rfl (by first | exact decide_eq_true (by omega) | exact decide_eq_false (by omega) | exact decide_eq_decide.2 (by omega) | exact decide_eq_true (by grind) | exact decide_eq_false (by grind) | exact decide_eq_decide.2 (by grind)) ?_
          repeat (first | exact Le.refl _ | refine Le.skip rfl ?_)
      refine TC.condP rfl (fun h9 => ?_) (fun h9 => ?_)
      ·
        obtain ⟨e1, e2⟩ := En.thin_arg (t := last) hmax hg (by assumption)
        refine TC.seq ?_
        refine TC.region ?_
        refine TL.assign rfl rfl ?_
        refine TL.assign rfl rfl ?_
        refine TL.done ?_
        refine Thn.go ?_
        refine TC.ret ?_
        refine Thn.ret ?_
        refine Ends.ret [6, 7] rfl rfl ?_
        exact ⟨_, by rw [e1]; rfl, by rw [e2]; exact World.ownsRow_nil _ _ _ _, hch⟩
      ·
        obtain ⟨e1, e2⟩ := En.thin_ok (t := last) hmax hg (by assumption)
        have hrd := ha.ch0 hch
        refine TC.skip ?_
        refine Thn.go ?_
        refine TC.seq ?_
        refine TC.region ?_
        refine TL.assign rfl rfl ?_
        refine TL.done ?_
        refine Thn.go ?_
        refine TC.seq ?_
        refine TC.seq ?_
        refine TC.region ?_
        refine TL.assign rfl rfl ?_
        refine TL.done ?_
        refine Thn.go ?_
        refine TC.block ?_
        refine TC.loop2 (fun (i : Nat) (ov : Value) => [(0, .slice ad l.length c), (1, .int .i64 q), (2, .bool last), (10, ov), (11, .int .i64 (i : Int))]) (fun i ov w4 => i ≤ l.length ∧ Own w4 w'.heap.size 32 4 ov ((l.take i).filter (fun x => decide (q < x.seq ∨ (En.top l q x ∧ ¬ (last = true ∧ x.gone = true))))).length (((l.take i).filter (fun x => decide (q < x.seq ∨ (En.top l q x ∧ ¬ (last = true ∧ x.gone = true))))).flatMap cl) ∧ Ch [] w' w4) (fun i _ => l.length - i) 0 (.slice none 0 0) (by repeat (first | exact trivial | refine ⟨rfl, ?_⟩)) (⟨by omega, World.ownsRow_nil _ _ _ _, Ch.refl _ _⟩) (fun i ov w4 hH => ?_)
        obtain ⟨hi, hown, hch4⟩ := hH
        have hfl := En.filt_len l (fun x => decide (q < x.seq ∨ (En.top l q x ∧ ¬ (last = true ∧ x.gone = true)))) i
        refine TC.seq ?_
        refine TC.seq ?_
        refine TC.region ?_
        refine TL.move rfl rfl ?_
        refine TL.move rfl rfl ?_
        refine TL.lenSlice Try.underlying25 rfl rfl ?_
        refine TL.lss rfl rfl rfl ?_
        refine TL.done ?_
        refine Thn.go ?_
        refine TC.condP rfl (fun h10 => ?_) (fun h10 => ?_)
        ·
          have hil : i < l.length := by omega
          have hfy := En.filt_yes (f := fun x => decide (q < x.seq ∨ (En.top l q x ∧ ¬ (last = true ∧ x.gone = true)))) hil
          have hfn := En.filt_no (f := fun x => decide (q < x.seq ∨ (En.top l q x ∧ ¬ (last = true ∧ x.gone = true)))) hil
          have hiff := En.newest_iff hs (q := q) hil
          have hsome : (En.rec l i).seq ≤ q → (En.newest l (En.rec l i).key q).isSome = true := fun h => by obtain ⟨y, hy⟩ := En.newest_some (En.rec_mem hil) (⟨rfl, h⟩ : En.hit (En.rec l i) (En.rec l i).key q); rw [hy]; rfl
          obtain ⟨b1, o1, rfl, hce⟩ := recIn hrd hil
          obtain ⟨x, hx⟩ : ∃ x, En.rec l i = x := ⟨_, rfl⟩
          rw [hx] at hce hfy hfn hiff hsome
          refine TC.skip ?_
          refine Thn.go ?_
          refine TC.seq ?_
          refine TC.block ?_
          refine TC.seq ?_
          refine TC.region ?_
          refine TL.move rfl rfl ?_
          refine TL.move rfl rfl ?_
          refine TL.move rfl rfl ?_
          refine TL.indexAddr (i) sl25 rfl rfl (by first | rfl | omega) (by omega) rfl ?_
          refine TL.fieldAddr fd32k0 rfl rfl ?_
          refine TL.load pl9 rfl ((show _ = some (str x.key) from hce _ hch4 0 (by decide))) rfl ?_
          refine TL.move rfl rfl ?_
          refine TL.call can41 rfl rfl (fn41 _ l x.key q w4 (hrd.ch0 hch4)) (fun v66 w66 hr66 => ?_)
          obtain ⟨rfl, hc66⟩ := hr66
          obtain ⟨y, hy⟩ : ∃ y, (En.newest l x.key q).getD e0 = y := ⟨_, rfl⟩
          rw [hy]
          refine TL.move rfl rfl ?_
          refine TL.extract rfl rfl rfl ?_
          refine TL.extract rfl rfl rfl ?_
          refine TL.alloc ze32 rfl (fun w12 hb12 hc12 hz12 => ?_)
          refine TL.store sz32 rfl rfl rfl hb12 (by simp [Value.cells]) (by simpa [Value.cells] using cl_one y) (.inl rfl) (fun ws1 hbs1 hcs1 hzs1 => ?_)
          replace hbs1 : Has ws1 w66.heap.size (cl y).toArray 32 (0, 0) := hbs1.setAll rfl
          have q1 : Ch [] w4 ws1 := hc66.trans0 (hc12.then1 hcs1 (Nat.le_refl _))
          have q2 := hch4.trans0 q1
          have hiff' : x.seq ≤ q → (y = x ↔ En.top l q x) := fun h => by have := hiff h e0; rwa [hy] at this
          have htl : En.top l q x → x.seq ≤ q := fun h => h.1
          refine TL.assign rfl rfl ?_
          refine TL.done ?_
          refine Thn.go ?_
          refine TC.cut0 ([(0, .slice (some ⟨b1, o1, none⟩) l.length c), (1, .int .i64 q), (2, .bool last), (10, ov), (11, .int .i64 (i : Int)), (94, .bool (decide (q < x.seq ∨ (En.top l q x ∧ ¬ (last = true ∧ x.gone = true)))))]) (fun w6 => Ch [] ws1 w6) (fun K11 hK11 => ?_) (fun w6 hH18 => ?_)
          ·
            refine TC.regionQ (fun w7 => Ch [] ws1 w7) mixed0 (by kernel_rfl) (Ch.drew [] _) ?_
            refine TQ.via rfl rfl rfl rfl (fun w2 hw2 => TL.move rfl rfl (TL.done ⟨rfl, rfl⟩)) ?_
            refine TQ.via rfl rfl rfl rfl (fun w2 hw2 => TL.move rfl rfl (TL.done ⟨rfl, rfl⟩)) ?_
            refine TQ.via rfl rfl rfl rfl (fun w2 hw2 => TL.indexAddr (i) sl25 rfl rfl (by first | rfl | omega) (by omega) rfl (TL.done ⟨rfl, rfl⟩)) ?_
            refine TQ.via rfl rfl rfl rfl (fun w2 hw2 => TL.fieldAddr fd32k2 rfl rfl (TL.done ⟨rfl, rfl⟩)) ?_
            refine TQ.via rfl rfl rfl rfl (fun w2 hw2 => TL.load pl3 rfl ((show _ = some (Value.int .i64 x.seq) from hce _ (q2.trans0 hw2) 2 (by decide))) rfl (TL.done ⟨rfl, rfl⟩)) ?_
            refine TQ.via rfl rfl rfl rfl (fun w2 hw2 => TL.move rfl rfl (TL.done ⟨rfl, rfl⟩)) ?_
            refine TQ.via rfl rfl rfl rfl (fun w2 hw2 => TL.gtr rfl rfl rfl (TL.done ⟨rfl, rfl⟩)) ?_
            refine TQ.em (fun e75 => ?_) (fun e75 => ?_)
            ·
              refine TQ.via rfl rfl rfl rfl (fun w2 hw2 => TL.move rfl rfl (TL.done ⟨rfl, rfl⟩)) ?_
              refine TQ.guardNo (d := 76) rfl rfl rfl rfl rfl ?_
              refine TQ.guardNo (d := 76) rfl rfl rfl rfl rfl ?_
              refine TQ.guardUndef (d := 78) rfl rfl rfl rfl ?_
              refine TQ.guardUndef (d := 78) rfl rfl rfl rfl ?_
              refine TQ.guardUndef (d := 78) rfl rfl rfl rfl ?_
              refine TQ.guardUndef (d := 78) rfl rfl rfl rfl ?_
              refine TQ.guardUndef (d := 78) rfl rfl rfl rfl ?_
              refine TQ.guardUndef (d := 78) rfl rfl rfl rfl ?_
              refine TQ.guardNo (d := 76) rfl rfl rfl rfl rfl ?_
              refine TQ.guardNo (d := 76) rfl rfl rfl rfl rfl ?_
              refine TQ.guardUndef (d := 86) rfl rfl rfl rfl ?_
              refine TQ.guardUndef (d := 86) rfl rfl rfl rfl ?_
              refine TQ.guardUndef (d := 86) rfl rfl rfl rfl ?_
              refine TQ.guardUndef (d := 89) rfl rfl rfl rfl ?_
              refine TQ.guardUndef (d := 86) rfl rfl rfl rfl ?_
              refine TQ.guardUndef (d := 86) rfl rfl rfl rfl ?_
              refine TQ.guardNo (d := 76) rfl rfl rfl rfl rfl ?_
              refine TQ.via rfl rfl rfl rfl (fun w2 hw2 => TL.pickT rfl rfl rfl rfl (TL.done ⟨rfl, rfl⟩)) ?_
              refine TQ.done (fun w2 hw2 => ?_)
              exact hK11  _ _ (by repeat (first | exact trivial | refine ⟨rfl, ?_⟩ | refine ⟨congrArg (fun b => some (Value.bool b)) (by first | exact (decide_eq_true (by grind)).symm | exact (decide_eq_false (by grind)).symm | exact decide_eq_decide.2 (by grind) | exact decide_eq_true (by grind) | exact decide_eq_false (by grind) | (exfalso; grind)), ?_⟩)) (hw2)
            ·
              refine TQ.via rfl rfl rfl rfl (fun w2 hw2 => TL.move rfl rfl (TL.done ⟨rfl, rfl⟩)) ?_
              refine TQ.guardYes (d := 76) rfl rfl rfl ?_
              refine TQ.via rfl rfl rfl rfl (fun w2 hw2 => TL.move rfl rfl (TL.done ⟨rfl, rfl⟩)) ?_
              refine TQ.emB (fun e77 => ?_) (fun e77 => ?_)
              ·
                refine TQ.guardYes (d := 76) rfl rfl rfl ?_
                refine TQ.via rfl rfl rfl rfl (fun w2 hw2 => TL.move rfl rfl (TL.done ⟨rfl, rfl⟩)) ?_
                refine TQ.guardYes (d := 78) rfl rfl rfl ?_
                refine TQ.via rfl rfl rfl rfl (fun w2 hw2 => TL.loadAgg (cl y) ag32 rfl rfl (fun j _ => by rw [(hbs1.ch0 hw2).cell, Nat.zero_add, List.getElem?_toArray]) rfl (TL.done ⟨rfl, rfl⟩)) ?_
                refine TQ.guardYes (d := 78) rfl rfl rfl ?_
                refine TQ.via rfl rfl rfl rfl (fun w2 hw2 => TL.move rfl rfl (TL.done ⟨rfl, rfl⟩)) ?_
                refine TQ.guardYes (d := 78) rfl rfl rfl ?_
                refine TQ.via rfl rfl rfl rfl (fun w2 hw2 => TL.move rfl rfl (TL.done ⟨rfl, rfl⟩)) ?_
                refine TQ.guardYes (d := 78) rfl rfl rfl ?_
                refine TQ.via rfl rfl rfl rfl (fun w2 hw2 => TL.indexAddr (i) sl25 rfl rfl (by first | rfl | omega) (by omega) rfl (TL.done ⟨rfl, rfl⟩)) ?_
                refine TQ.guardYes (d := 78) rfl rfl rfl ?_
                refine TQ.via rfl rfl rfl rfl (fun w2 hw2 => TL.loadAgg (cl x) ag32 rfl rfl (fun j hj => hce _ (q2.trans0 hw2) j hj) rfl (TL.done ⟨rfl, rfl⟩)) ?_
                refine TQ.guardYes (d := 78) rfl rfl rfl ?_
                refine TQ.via rfl rfl rfl rfl (fun w2 hw2 => TL.eqlAgg gd32 (eqEntry _ _ _) rfl rfl rfl (TL.done ⟨rfl, rfl⟩)) ?_
                refine TQ.em (fun e84 => ?_) (fun e84 => ?_)
                ·
                  refine TQ.guardYes (d := 76) rfl rfl rfl ?_
                  refine TQ.via rfl rfl rfl rfl (fun w2 hw2 => TL.pickT rfl rfl rfl rfl (TL.done ⟨rfl, rfl⟩)) ?_
                  refine TQ.guardYes (d := 76) rfl rfl rfl ?_
                  refine TQ.via rfl rfl rfl rfl (fun w2 hw2 => TL.move rfl rfl (TL.done ⟨rfl, rfl⟩)) ?_
                  refine TQ.guardYes (d := 86) rfl rfl rfl ?_
                  refine TQ.via rfl rfl rfl rfl (fun w2 hw2 => TL.fieldAddr fd32k3 rfl rfl (TL.done ⟨rfl, rfl⟩)) ?_
                  refine TQ.guardYes (d := 86) rfl rfl rfl ?_
                  refine TQ.via rfl rfl rfl rfl (fun w2 hw2 => TL.load pl4 rfl ((show _ = some (Value.bool y.gone) from (hbs1.ch0 hw2).cell _)) rfl (TL.done ⟨rfl, rfl⟩)) ?_
                  refine TQ.emB (fun e88 => ?_) (fun e88 => ?_)
                  ·
                    refine TQ.guardYes (d := 86) rfl rfl rfl ?_
                    refine TQ.via rfl rfl rfl rfl (fun w2 hw2 => TL.move rfl rfl (TL.done ⟨rfl, rfl⟩)) ?_
                    refine TQ.guardYes (d := 89) rfl rfl rfl ?_
                    refine TQ.via rfl rfl rfl rfl (fun w2 hw2 => TL.move rfl rfl (TL.done ⟨rfl, rfl⟩)) ?_
                    refine TQ.guardYes (d := 86) rfl rfl rfl ?_
                    refine TQ.via rfl rfl rfl rfl (fun w2 hw2 => TL.pickT rfl rfl rfl rfl (TL.done ⟨rfl, rfl⟩)) ?_
                    refine TQ.guardYes (d := 86) rfl rfl rfl ?_
                    refine TQ.via rfl rfl rfl rfl (fun w2 hw2 => TL.not rfl rfl (TL.done ⟨rfl, rfl⟩)) ?_
                    refine TQ.guardYes (d := 76) rfl rfl rfl ?_
                    refine TQ.via rfl rfl rfl rfl (fun w2 hw2 => TL.pickT rfl rfl rfl rfl (TL.done ⟨rfl, rfl⟩)) ?_
                    refine TQ.via rfl rfl rfl rfl (fun w2 hw2 => TL.pickF rfl rfl rfl rfl (TL.done ⟨rfl, rfl⟩)) ?_
                    refine TQ.done (fun w2 hw2 => ?_)
                    exact hK11 _ _ ⟨rfl, rfl, rfl, rfl, rfl, congrArg (fun b => some (Value.bool b)) (by rw [Bool.eq_iff_iff, decide_eq_true_iff]; have ht := (hiff' (by omega)).1 e84; rw [e84] at e88; simp [ht, e88, e75]), trivial⟩ hw2
                  ·
                    refine TQ.guardYes (d := 86) rfl rfl rfl ?_
                    refine TQ.via rfl rfl rfl rfl (fun w2 hw2 => TL.move rfl rfl (TL.done ⟨rfl, rfl⟩)) ?_
                    refine TQ.guardNo (d := 89) rfl rfl rfl rfl rfl ?_
                    refine TQ.guardYes (d := 86) rfl rfl rfl ?_
                    refine TQ.via rfl rfl rfl rfl (fun w2 hw2 => TL.pickF rfl rfl rfl rfl (TL.done ⟨rfl, rfl⟩)) ?_
                    refine TQ.guardYes (d := 86) rfl rfl rfl ?_
                    refine TQ.via rfl rfl rfl rfl (fun w2 hw2 => TL.not rfl rfl (TL.done ⟨rfl, rfl⟩)) ?_
                    refine TQ.guardYes (d := 76) rfl rfl rfl ?_
                    refine TQ.via rfl rfl rfl rfl (fun w2 hw2 => TL.pickT rfl rfl rfl rfl (TL.done ⟨rfl, rfl⟩)) ?_
                    refine TQ.via rfl rfl rfl rfl (fun w2 hw2 => TL.pickF rfl rfl rfl rfl (TL.done ⟨rfl, rfl⟩)) ?_
                    refine TQ.done (fun w2 hw2 => ?_)
                    exact hK11  _ _ (by repeat (first | exact trivial | refine ⟨rfl, ?_⟩ | refine ⟨congrArg (fun b => some (Value.bool b)) (by first | exact (decide_eq_true (by grind)).symm | exact (decide_eq_false (by grind)).symm | exact decide_eq_decide.2 (by grind) | exact decide_eq_true (by grind) | exact decide_eq_false (by grind) | (exfalso; grind)), ?_⟩)) (hw2)
                ·
                  refine TQ.guardYes (d := 76) rfl rfl rfl ?_
                  refine TQ.via rfl rfl rfl rfl (fun w2 hw2 => TL.pickT rfl rfl rfl rfl (TL.done ⟨rfl, rfl⟩)) ?_
                  refine TQ.guardYes (d := 76) rfl rfl rfl ?_
                  refine TQ.via rfl rfl rfl rfl (fun w2 hw2 => TL.move rfl rfl (TL.done ⟨rfl, rfl⟩)) ?_
                  refine TQ.guardNo (d := 86) rfl rfl rfl rfl rfl ?_
                  refine TQ.guardNo (d := 86) rfl rfl rfl rfl rfl ?_
                  refine TQ.guardNo (d := 86) rfl rfl rfl rfl rfl ?_
                  refine TQ.guardUndef (d := 89) rfl rfl rfl rfl ?_
                  refine TQ.guardNo (d := 86) rfl rfl rfl rfl rfl ?_
                  refine TQ.guardNo (d := 86) rfl rfl rfl rfl rfl ?_
                  refine TQ.guardYes (d := 76) rfl rfl rfl ?_
                  refine TQ.via rfl rfl rfl rfl (fun w2 hw2 => TL.pickF rfl rfl rfl rfl (TL.done ⟨rfl, rfl⟩)) ?_
                  refine TQ.via rfl rfl rfl rfl (fun w2 hw2 => TL.pickF rfl rfl rfl rfl (TL.done ⟨rfl, rfl⟩)) ?_
                  refine TQ.done (fun w2 hw2 => ?_)
                  exact hK11  _ _ (by repeat (first | exact trivial | refine ⟨rfl, ?_⟩ | refine ⟨congrArg (fun b => some (Value.bool b)) (by first | exact (decide_eq_true (by grind)).symm | exact (decide_eq_false (by grind)).symm | exact decide_eq_decide.2 (by grind) | exact decide_eq_true (by grind) | exact decide_eq_false (by grind) | (exfalso; grind)), ?_⟩)) (hw2)
              ·
                refine TQ.guardYes (d := 76) rfl rfl rfl ?_
                refine TQ.via rfl rfl rfl rfl (fun w2 hw2 => TL.move rfl rfl (TL.done ⟨rfl, rfl⟩)) ?_
                refine TQ.guardNo (d := 78) rfl rfl rfl rfl rfl ?_
                refine TQ.guardNo (d := 78) rfl rfl rfl rfl rfl ?_
                refine TQ.guardNo (d := 78) rfl rfl rfl rfl rfl ?_
                refine TQ.guardNo (d := 78) rfl rfl rfl rfl rfl ?_
                refine TQ.guardNo (d := 78) rfl rfl rfl rfl rfl ?_
                refine TQ.guardNo (d := 78) rfl rfl rfl rfl rfl ?_
                refine TQ.guardYes (d := 76) rfl rfl rfl ?_
                refine TQ.via rfl rfl rfl rfl (fun w2 hw2 => TL.pickF rfl rfl rfl rfl (TL.done ⟨rfl, rfl⟩)) ?_
                refine TQ.guardYes (d := 76) rfl rfl rfl ?_
                refine TQ.via rfl rfl rfl rfl (fun w2 hw2 => TL.move rfl rfl (TL.done ⟨rfl, rfl⟩)) ?_
                refine TQ.guardNo (d := 86) rfl rfl rfl rfl rfl ?_
                refine TQ.guardNo (d := 86) rfl rfl rfl rfl rfl ?_
                refine TQ.guardNo (d := 86) rfl rfl rfl rfl rfl ?_
                refine TQ.guardUndef (d := 89) rfl rfl rfl rfl ?_
                refine TQ.guardNo (d := 86) rfl rfl rfl rfl rfl ?_
                refine TQ.guardNo (d := 86) rfl rfl rfl rfl rfl ?_
                refine TQ.guardYes (d := 76) rfl rfl rfl ?_
                refine TQ.via rfl rfl rfl rfl (fun w2 hw2 => TL.pickF rfl rfl rfl rfl (TL.done ⟨rfl, rfl⟩)) ?_
                refine TQ.via rfl rfl rfl rfl (fun w2 hw2 => TL.pickF rfl rfl rfl rfl (TL.done ⟨rfl, rfl⟩)) ?_
                refine TQ.done (fun w2 hw2 => ?_)
                exact hK11  _ _ (by repeat (first | exact trivial | refine ⟨rfl, ?_⟩ | refine ⟨congrArg (fun b => some (Value.bool b)) (by first | exact (decide_eq_true (by grind)).symm | exact (decide_eq_false (by grind)).symm | exact decide_eq_decide.2 (by grind) | exact decide_eq_true (by grind) | exact decide_eq_false (by grind) | (exfalso; grind)), ?_⟩)) (hw2)
          ·
            refine TC.condP rfl (fun h14 => ?_) (fun h14 => ?_)
            ·
              have htop : q < x.seq ∨ (En.top l q x ∧ ¬ (last = true ∧ x.gone = true)) := by assumption
              refine TC.region ?_
              refine TL.move rfl rfl ?_
              refine TL.move rfl rfl ?_
              refine TL.move rfl rfl ?_
              refine TL.indexAddr (i) sl25 rfl rfl (by first | rfl | omega) (by omega) rfl ?_
              refine TL.loadAgg (cl x) ag32 rfl rfl (fun j hj => hce _ (q2.trans0 hH18) j hj) rfl ?_
              refine TL.buildSlice [.tmp 99] sl25 rfl rfl rfl (by decide) (by first | simp [Value.cells]; done | simp [Value.cells, cl_len]; done) rfl (fun w100 hb100 hc100 hz100 => ?_)
              refine TL.append sl25 rfl rfl rfl (((hown.ch0 q1).ch0 hH18).ch0 hc100) (News.ofRd Try.underlying25 (recOne hb100) (rows_one _)) (by omega) (by omega) (by have := (q2.trans0 (hH18.trans0 hc100)).size; omega) (fun v101 w101 hv101 hc101 _ => ?_)
              refine TL.assign rfl rfl ?_
              refine TL.done ?_
              refine Blk.go ?_
              refine Thn.go ?_
              refine TC.region ?_
              refine TL.move rfl rfl ?_
              refine TL.add_i64 rfl rfl (by omega) (by omega) rfl ?_
              refine TL.assign rfl rfl ?_
              refine TL.done ?_
              refine Lp.go ((i + 1, v101)) (by repeat (first | exact trivial | refine ⟨rfl, ?_⟩)) ?_ (by first | omega | (dsimp only; omega))
              refine ⟨by show i + 1 ≤ l.length; omega, ?_, (((hown.ch0 q1).ch0 hH18).ch0 hc100).thenCh' (q2.trans0 (hH18.trans0 hc100)) hc101 (Nat.le_refl _)⟩
              show Own w101 w'.heap.size 32 4 v101 ((l.take (i + 1)).filter _).length _
              rw [hfy (decide_eq_true htop), List.length_append, List.flatMap_append]; exact hv101
            ·
              have hno : ¬ (q < x.seq ∨ (En.top l q x ∧ ¬ (last = true ∧ x.gone = true))) := by assumption
              refine TC.skip ?_
              refine Blk.go ?_
              refine Thn.go ?_
              refine TC.region ?_
              refine TL.move rfl rfl ?_
              refine TL.add_i64 rfl rfl (by omega) (by omega) rfl ?_
              refine TL.assign rfl rfl ?_
              refine TL.done ?_
              refine Lp.go ((i + 1, ov)) (by repeat (first | exact trivial | refine ⟨rfl, ?_⟩)) ?_ (by first | omega | (dsimp only; omega))
              exact ⟨by show i + 1 ≤ l.length; omega, by show Own w6 w'.heap.size 32 4 ov ((l.take (i + 1)).filter _).length _; rw [hfn (decide_eq_false hno)]; exact (hown.ch0 q1).ch0 hH18, q2.trans0 hH18⟩
        ·
          have hil : i = l.length := by omega
          subst hil
          rw [List.take_length] at hown
          refine TC.exit ?_
          refine Thn.exit ?_
          refine Lp.exit ?_
          refine Blk.hit ?_
          refine Thn.go ?_
          refine TC.seq ?_
          refine TC.region ?_
          refine TL.move rfl rfl ?_
          refine TL.assign rfl rfl ?_
          refine TL.assign rfl rfl ?_
          refine TL.done ?_
          refine Thn.go ?_
          refine TC.ret ?_
          refine Ends.ret [6, 7] rfl rfl ?_
          exact ⟨_, by rw [e1]; rfl, by rw [e2]; exact hown.base hch.size, hch.trans0 hch4⟩

