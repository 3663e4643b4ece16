/-
  Walks through the given program: each theorem fnN says what the call of function N of the translation hands back, for all arguments that its premises describe, and that nothing that was there has turned.
-/
import Derived.Test.YtemfaondlhglbaaT10
import Derived.Test.YtemfaondlhglbaaTm4
namespace Go.Proofs.Ytemfaondlhglbaa
open Go.Lane
theorem can13 : Callable Try.prog 13 := ⟨Try.f13, Try.func13, by kernel_rfl, rfl⟩
theorem can15 : Callable Try.prog 15 := ⟨Try.f15, Try.func15, by kernel_rfl, rfl⟩
theorem can16 : Callable Try.prog 16 := ⟨Try.f16, Try.func16, by kernel_rfl, rfl⟩
theorem can17 : Callable Try.prog 17 := ⟨Try.f17, Try.func17, by kernel_rfl, rfl⟩
theorem can18 : Callable Try.prog 18 := ⟨Try.f18, Try.func18, by kernel_rfl, rfl⟩
theorem can19 : Callable Try.prog 19 := ⟨Try.f19, Try.func19, by kernel_rfl, rfl⟩
theorem can20 : Callable Try.prog 20 := ⟨Try.f20, Try.func20, by kernel_rfl, rfl⟩
theorem can22 : Callable Try.prog 22 := ⟨Try.f22, Try.func22, by kernel_rfl, rfl⟩
theorem can23 : Callable Try.prog 23 := ⟨Try.f23, Try.func23, by kernel_rfl, rfl⟩

theorem fn12 (w : World) : Rets Try.prog 12 #[] w (fun v w' => v = .bool true ∧ Ch [] w w') := by
  have e7 : Tm.addE [] (atT 5 1) = 0 := by decide +kernel
  have f7 : Tm.addL [] (atT 5 1) = [atT 5 1] := by decide +kernel
  have e13 : Tm.addE [atT 5 1] (atT 5 0) = 0 := by decide +kernel
  have f13 : Tm.addL [atT 5 1] (atT 5 0) = [atT 5 0, atT 5 1] := by decide +kernel
  refine Rets.of (n := 41) (vs := []) Try.func12 rfl rfl rfl ?_
  refine TC.seq ?_
  refine TC.region ?_
  refine TL.assign rfl rfl ?_
  refine TL.done ?_
  refine Thn.go ?_
  refine TC.seq ?_
  refine TC.region ?_
  refine TL.call can23 rfl rfl (fn23 5 1 w) (fun v6 w6 hr6 => ?_)
  obtain ⟨rfl, hc6⟩ := hr6
  refine TL.call can16 rfl rfl (fn16 _ [] (atT 5 1) w6 (Rd.nil _ _)) (fun v7 w7 hr7 => ?_)
  rw [e7, f7] at hr7
  obtain ⟨r7, rfl, hv7, hc7⟩ := hr7
  refine TL.move rfl rfl ?_
  refine TL.extract rfl rfl rfl ?_
  refine TL.extract rfl rfl rfl ?_
  refine TL.assign rfl rfl ?_
  refine TL.assign rfl rfl ?_
  refine TL.done ?_
  refine Thn.go ?_
  refine TC.seq ?_
  refine TC.region ?_
  refine TL.move rfl rfl ?_
  refine TL.call can23 rfl rfl (fn23 5 0 w7) (fun v12 w12 hr12 => ?_)
  obtain ⟨rfl, hc12⟩ := hr12
  refine TL.call can16 rfl rfl (fn16 _ [atT 5 1] (atT 5 0) w12 (Rd.ofOwn (hv7.ch0 hc12))) (fun v13 w13 hr13 => ?_)
  rw [e13, f13] at hr13
  obtain ⟨r13, rfl, hv13, hc13⟩ := hr13
  obtain ⟨g13, c13, rfl⟩ := hv13.form (by decide)
  have q13 := hc6.trans0 (hc7.trans0 (hc12.trans0 hc13))
  have hel : ∀ (i : Nat) (_ : i < 2) (w2 : World), Ch [] w13 w2 → ∀ j, j < 5 → w2.cell? ⟨g13, 0 + i * 5 + j, none⟩ = (cl (Tm.rec [atT 5 0, atT 5 1] i))[j]? := fun i hi w2 h2 => by obtain ⟨b', o', e, hh⟩ := recAt (i := i) (l := [atT 5 0, atT 5 1]) ((Rd.ofOwn hv13).ch0 h2) hi; cases e; exact hh
  refine TL.move rfl rfl ?_
  refine TL.extract rfl rfl rfl ?_
  refine TL.extract rfl rfl rfl ?_
  refine TL.assign rfl rfl ?_
  refine TL.assign rfl rfl ?_
  refine TL.done ?_
  refine Thn.go ?_
  refine TC.seq ?_
  refine TC.regionQ (fun w6 => Ch [] w13 w6) mixed0 (by kernel_rfl) (Ch.drew [] _) ?_
  refine TQ.via rfl rfl rfl rfl (fun w2 hw2 => TL.move rfl rfl (TL.done ⟨rfl, rfl⟩)) ?_
  refine TQ.via rfl rfl rfl rfl (fun w2 hw2 => TL.eql rfl rfl rfl (TL.done ⟨rfl, rfl⟩)) ?_
  refine TQ.yes (rfl) ?_
  refine TQ.via rfl rfl rfl rfl (fun w2 hw2 => TL.move rfl rfl (TL.done ⟨rfl, rfl⟩)) ?_
  refine TQ.guardYes (d := 18) rfl rfl rfl ?_
  refine TQ.via rfl rfl rfl rfl (fun w2 hw2 => TL.move rfl rfl (TL.done ⟨rfl, rfl⟩)) ?_
  refine TQ.guardYes (d := 18) rfl rfl rfl ?_
  refine TQ.via rfl rfl rfl rfl (fun w2 hw2 => TL.eql rfl rfl rfl (TL.done ⟨rfl, rfl⟩)) ?_
  refine TQ.yes (rfl) ?_
  refine TQ.via rfl rfl rfl rfl (fun w2 hw2 => TL.pickT rfl rfl rfl rfl (TL.done ⟨rfl, rfl⟩)) ?_
  refine TQ.via rfl rfl rfl rfl (fun w2 hw2 => TL.move rfl rfl (TL.done ⟨rfl, rfl⟩)) ?_
  refine TQ.guardYes (d := 22) rfl rfl rfl ?_
  refine TQ.via rfl rfl rfl rfl (fun w2 hw2 => TL.move rfl rfl (TL.done ⟨rfl, rfl⟩)) ?_
  refine TQ.guardYes (d := 22) rfl rfl rfl ?_
  refine TQ.via rfl rfl rfl rfl (fun w2 hw2 => TL.lenSlice Try.underlying25 rfl rfl (TL.done ⟨rfl, rfl⟩)) ?_
  refine TQ.guardYes (d := 22) rfl rfl rfl ?_
  refine TQ.via rfl rfl rfl rfl (fun w2 hw2 => TL.eql rfl rfl rfl (TL.done ⟨rfl, rfl⟩)) ?_
  refine TQ.yes (rfl) ?_
  refine TQ.via rfl rfl rfl rfl (fun w2 hw2 => TL.pickT rfl rfl rfl rfl (TL.done ⟨rfl, rfl⟩)) ?_
  refine TQ.via rfl rfl rfl rfl (fun w2 hw2 => TL.move rfl rfl (TL.done ⟨rfl, rfl⟩)) ?_
  refine TQ.guardYes (d := 27) rfl rfl rfl ?_
  refine TQ.via rfl rfl rfl rfl (fun w2 hw2 => TL.move rfl rfl (TL.done ⟨rfl, rfl⟩)) ?_
  refine TQ.guardYes (d := 27) rfl rfl rfl ?_
  refine TQ.via rfl rfl rfl rfl (fun w2 hw2 => TL.indexAddr (0) sl25 rfl rfl rfl (by decide) rfl (TL.done ⟨rfl, rfl⟩)) ?_
  refine TQ.guardYes (d := 27) rfl rfl rfl ?_
  refine TQ.via rfl rfl rfl rfl (fun w2 hw2 => TL.loadAgg (cl (atT 5 0)) ag27 rfl rfl (fun j hj => hel 0 (by decide) _ hw2 j hj) rfl (TL.done ⟨rfl, rfl⟩)) ?_
  refine TQ.guardYes (d := 27) rfl rfl rfl ?_
  refine TQ.call (.agg (cl (atT 5 0)).toArray) can23 rfl rfl (fun w2 hw2 => (fn23 5 0 w2).mono (fun _ _ ⟨q1, q2⟩ => ⟨q1, hw2.trans0 q2⟩)) ?_
  refine TQ.guardYes (d := 27) rfl rfl rfl ?_
  refine TQ.via rfl rfl rfl rfl (fun w2 hw2 => TL.eqlAgg gd27 (eqTimer _ _ _) rfl rfl rfl (TL.done ⟨rfl, rfl⟩)) ?_
  refine TQ.yes (rfl) ?_
  refine TQ.via rfl rfl rfl rfl (fun w2 hw2 => TL.pickT rfl rfl rfl rfl (TL.done ⟨rfl, rfl⟩)) ?_
  refine TQ.via rfl rfl rfl rfl (fun w2 hw2 => TL.move rfl rfl (TL.done ⟨rfl, rfl⟩)) ?_
  refine TQ.guardYes (d := 34) rfl rfl rfl ?_
  refine TQ.via rfl rfl rfl rfl (fun w2 hw2 => TL.move rfl rfl (TL.done ⟨rfl, rfl⟩)) ?_
  refine TQ.guardYes (d := 34) rfl rfl rfl ?_
  refine TQ.via rfl rfl rfl rfl (fun w2 hw2 => TL.indexAddr (1) sl25 rfl rfl rfl (by decide) rfl (TL.done ⟨rfl, rfl⟩)) ?_
  refine TQ.guardYes (d := 34) rfl rfl rfl ?_
  refine TQ.via rfl rfl rfl rfl (fun w2 hw2 => TL.loadAgg (cl (atT 5 1)) ag27 rfl rfl (fun j hj => hel 1 (by decide) _ hw2 j hj) rfl (TL.done ⟨rfl, rfl⟩)) ?_
  refine TQ.guardYes (d := 34) rfl rfl rfl ?_
  refine TQ.call (.agg (cl (atT 5 1)).toArray) can23 rfl rfl (fun w2 hw2 => (fn23 5 1 w2).mono (fun _ _ ⟨q1, q2⟩ => ⟨q1, hw2.trans0 q2⟩)) ?_
  refine TQ.guardYes (d := 34) rfl rfl rfl ?_
  refine TQ.via rfl rfl rfl rfl (fun w2 hw2 => TL.eqlAgg gd27 (eqTimer _ _ _) rfl rfl rfl (TL.done ⟨rfl, rfl⟩)) ?_
  refine TQ.yes (rfl) ?_
  refine TQ.via rfl rfl rfl rfl (fun w2 hw2 => TL.pickT rfl rfl rfl rfl (TL.done ⟨rfl, rfl⟩)) ?_
  refine TQ.via rfl rfl rfl rfl (fun w2 hw2 => TL.assign rfl rfl (TL.done ⟨rfl, rfl⟩)) ?_
  refine TQ.done (fun w2 hw2 => ?_)
  refine Thn.go ?_
  refine TC.ret ?_
  refine Ends.ret [0] rfl rfl ?_
  exact ⟨rfl, q13.trans0 hw2⟩

theorem fn5 (a : Value) (l : List Tm.Timer) (t : Tm.Timer) (m k : Int) (s : List UInt8) (w : World) (ha : Rd w a 5 l.length (l.flatMap cl)) : Rets Try.prog 5 #[a, .agg (cl t).toArray, .int .i64 m, .int .i64 k, str s] w (fun v w' => v = .bool true ∧ Ch [] w w') := by
  obtain ⟨ad, c, rfl, _⟩ := ha.shape
  have hmm : maxLen = 9223372036854775807 := rfl
  refine Rets.of (n := 182) (vs := [_, _, _, _, _]) Try.func5 rfl rfl rfl ?_
  refine TC.seq ?_
  refine TC.region ?_
  refine TL.box rfl rfl (fun w6 hb6 hc6 hz6 => ?_)
  replace hb6 : Has w6 w.heap.size (cl t).toArray 27 (0, 0) := hb6
  refine TL.assign rfl rfl ?_
  refine TL.done ?_
  refine Thn.go ?_
  refine TC.seq ?_
  refine TC.seq ?_
  refine TC.region ?_
  refine TL.move rfl rfl ?_
  refine TL.lenSlice Try.underlying25 rfl rfl ?_
  refine TL.gtr rfl rfl rfl ?_
  refine TL.done ?_
  refine Thn.go ?_
  refine TC.condP rfl (fun h1 => ?_) (fun h1 => ?_)
  ·
    refine TC.seq ?_
    refine TC.region ?_
    refine TL.assign rfl rfl ?_
    refine TL.done ?_
    refine Thn.go ?_
    refine TC.ret ?_
    refine Thn.ret ?_
    refine Ends.ret [10] rfl rfl ?_
    exact ⟨rfl, hc6⟩
  ·
    have hl3 : l.length ≤ 300 := by omega
    have ha6 := ha.ch0 hc6
    refine TC.skip ?_
    refine Thn.go ?_
    refine TC.seq ?_
    refine TC.region ?_
    refine TL.move rfl rfl ?_
    refine TL.call can15 rfl rfl (fn15 _ l (by omega) w6 ha6) (fun v36 w36 hr36 => ?_)
    obtain ⟨⟨g36, c36, rfl⟩, hv36, hc36⟩ := hr36
    have hcap := (Rd.ofOwn hv36).cap
    refine TL.assign rfl rfl ?_
    refine TL.done ?_
    refine Thn.go ?_
    refine TC.seq ?_
    refine TC.region ?_
    refine TL.move rfl rfl ?_
    refine TL.move rfl rfl ?_
    refine TL.lenSlice Try.underlying25 rfl rfl ?_
    refine TL.sliceTo (l.length) sl25 rfl rfl (by first | rfl | omega) (by omega) rfl ?_
    have ho := own_prefix hv36 (by omega)
    refine TL.assign rfl rfl ?_
    refine TL.done ?_
    refine Thn.go ?_
    refine TC.seq ?_
    refine TC.region ?_
    refine TL.move rfl rfl ?_
    refine TL.loadAgg (cl t) ag27 rfl rfl (fun j _ => by rw [(hb6.ch0 hc36).cell, Nat.zero_add, List.getElem?_toArray]) rfl ?_
    refine TL.call can16 rfl rfl (fn16 _ l t w36 ho) (fun v44 w44 hr44 => ?_)
    obtain ⟨r44, rfl, hv44, hc44⟩ := hr44
    obtain ⟨d44, p44, rfl⟩ := hv44.shape
    refine TL.move rfl rfl ?_
    refine TL.extract rfl rfl rfl ?_
    refine TL.extract rfl rfl rfl ?_
    refine TL.assign rfl rfl ?_
    refine TL.assign rfl rfl ?_
    refine TL.done ?_
    refine Thn.go ?_
    refine TC.seq ?_
    refine TC.region ?_
    refine TL.move rfl rfl ?_
    refine TL.loadAgg (cl t) ag27 rfl rfl (fun j _ => by rw [((hb6.ch0 hc36).ch0 hc44).cell, Nat.zero_add, List.getElem?_toArray]) rfl ?_
    refine TL.call can17 rfl rfl (fn17 _ l t w44 ((ha6.ch0 hc36).ch0 hc44)) (fun v50 w50 hr50 => ?_)
    obtain ⟨r50, rfl, hv50, hc50⟩ := hr50
    refine TL.move rfl rfl ?_
    refine TL.extract rfl rfl rfl ?_
    refine TL.extract rfl rfl rfl ?_
    refine TL.assign rfl rfl ?_
    refine TL.assign rfl rfl ?_
    refine TL.done ?_
    refine Thn.go ?_
    refine TC.seq ?_
    refine TC.region ?_
    refine TL.move rfl rfl ?_
    refine TL.move rfl rfl ?_
    refine TL.call can13 rfl rfl (fn13 _ l m w50 ((ho.ch0 hc44).ch0 hc50)) (fun v56 w56 hr56 => ?_)
    obtain ⟨r56, s56, rfl, hv56, hu56, hap, hc56⟩ := hr56
    obtain ⟨d56, p56, rfl⟩ := hv56.shape
    obtain ⟨du56, pu56, rfl⟩ := hu56.shape
    refine TL.move rfl rfl ?_
    refine TL.extract rfl rfl rfl ?_
    refine TL.extract rfl rfl rfl ?_
    refine TL.extract rfl rfl rfl ?_
    refine TL.assign rfl rfl ?_
    refine TL.assign rfl rfl ?_
    refine TL.assign rfl rfl ?_
    refine TL.done ?_
    refine Thn.go ?_
    refine TC.seq ?_
    refine TC.region ?_
    refine TL.move rfl rfl ?_
    refine TL.move rfl rfl ?_
    refine TL.call can18 rfl rfl (fn18 _ l m w56 ((((ha6.ch0 hc36).ch0 hc44).ch0 hc50).ch0 hc56)) (fun v63 w63 hr63 => ?_)
    obtain ⟨r63, s63, rfl, hv63, hu63, _, hc63⟩ := hr63
    refine TL.move rfl rfl ?_
    refine TL.extract rfl rfl rfl ?_
    refine TL.extract rfl rfl rfl ?_
    refine TL.extract rfl rfl rfl ?_
    refine TL.assign rfl rfl ?_
    refine TL.assign rfl rfl ?_
    refine TL.assign rfl rfl ?_
    refine TL.done ?_
    refine Thn.go ?_
    refine TC.seq ?_
    refine TC.region ?_
    refine TL.move rfl rfl ?_
    refine TL.move rfl rfl ?_
    refine TL.move rfl rfl ?_
    refine TL.call can19 rfl rfl (fn19 _ l k s w63 ((((ho.ch0 hc44).ch0 hc50).ch0 hc56).ch0 hc63)) (fun v71 w71 hr71 => ?_)
    obtain ⟨r71, rfl, hv71, hc71⟩ := hr71
    obtain ⟨d71, p71, rfl⟩ := hv71.shape
    refine TL.move rfl rfl ?_
    refine TL.extract rfl rfl rfl ?_
    refine TL.extract rfl rfl rfl ?_
    refine TL.assign rfl rfl ?_
    refine TL.assign rfl rfl ?_
    refine TL.done ?_
    refine Thn.go ?_
    refine TC.seq ?_
    refine TC.region ?_
    refine TL.move rfl rfl ?_
    refine TL.move rfl rfl ?_
    refine TL.move rfl rfl ?_
    refine TL.call can20 rfl rfl (fn20 _ l k s w71 ((((((ha6.ch0 hc36).ch0 hc44).ch0 hc50).ch0 hc56).ch0 hc63).ch0 hc71)) (fun v78 w78 hr78 => ?_)
    obtain ⟨r78, rfl, hv78, hc78⟩ := hr78
    have k63 : Ch [] w63 w78 := hc71.trans0 hc78
    have k56 : Ch [] w56 w78 := hc63.trans0 k63
    have k50 : Ch [] w50 w78 := hc56.trans0 k56
    have k44 : Ch [] w44 w78 := hc50.trans0 k50
    have k36 : Ch [] w36 w78 := hc44.trans0 k44
    have z44 := hc44.size; have z50 := hc50.size; have z56 := hc56.size; have z63 := hc63.size; have z71 := hc71.size
    refine TL.move rfl rfl ?_
    refine TL.extract rfl rfl rfl ?_
    refine TL.extract rfl rfl rfl ?_
    refine TL.assign rfl rfl ?_
    refine TL.assign rfl rfl ?_
    refine TL.done ?_
    refine Thn.go ?_
    refine TC.seq ?_
    refine TC.region ?_
    refine TL.move rfl rfl ?_
    refine TL.call can14 rfl rfl (fn14 _ l w78 (ho.ch0 k36)) (fun v82 w82 hr82 => ?_)
    obtain ⟨rfl, hc82⟩ := hr82
    refine TL.move rfl rfl ?_
    refine TL.call can21 rfl rfl (fn21 _ l w82 (((ha6.ch0 hc36).ch0 k36).ch0 hc82)) (fun v84 w84 hr84 => ?_)
    obtain ⟨rfl, hc84⟩ := hr84
    have p84 := hc82.trans0 hc84
    refine TL.eql rfl rfl rfl ?_
    refine TL.yes (rfl) ?_
    refine TL.move rfl rfl ?_
    refine TL.guardYes (d := 86) rfl rfl rfl ?_
    refine TL.move rfl rfl ?_
    refine TL.guardYes (d := 86) rfl rfl rfl ?_
    refine TL.move rfl rfl ?_
    refine TL.guardYes (d := 86) rfl rfl rfl ?_
    refine TL.eql rfl rfl rfl ?_
    refine TL.yes (rfl) ?_
    refine TL.pickT rfl rfl rfl rfl ?_
    refine TL.move rfl rfl ?_
    refine TL.guardYes (d := 91) rfl rfl rfl ?_
    refine TL.move rfl rfl ?_
    refine TL.guardYes (d := 91) rfl rfl rfl ?_
    refine TL.move rfl rfl ?_
    refine TL.guardYes (d := 91) rfl rfl rfl ?_
    refine TL.call can22 rfl rfl (fn22 _ _ (Tm.addL l t) (Tm.addL l t) w84 (Rd.ofOwn ((hv44.ch0 k44).ch0 p84)) (Rd.ofOwn ((hv50.ch0 k50).ch0 p84))) (fun v94 w94 hr94 => ?_)
    obtain ⟨rfl, hc94⟩ := hr94
    have p94 := p84.trans0 hc94
    refine TL.yes (rfl) ?_
    refine TL.pickT rfl rfl rfl rfl ?_
    refine TL.move rfl rfl ?_
    refine TL.guardYes (d := 96) rfl rfl rfl ?_
    refine TL.move rfl rfl ?_
    refine TL.guardYes (d := 96) rfl rfl rfl ?_
    refine TL.move rfl rfl ?_
    refine TL.guardYes (d := 96) rfl rfl rfl ?_
    refine TL.eql rfl rfl rfl ?_
    refine TL.yes (rfl) ?_
    refine TL.pickT rfl rfl rfl rfl ?_
    refine TL.move rfl rfl ?_
    refine TL.guardYes (d := 101) rfl rfl rfl ?_
    refine TL.move rfl rfl ?_
    refine TL.guardYes (d := 101) rfl rfl rfl ?_
    refine TL.move rfl rfl ?_
    refine TL.guardYes (d := 101) rfl rfl rfl ?_
    refine TL.call can22 rfl rfl (fn22 _ _ (Tm.dueL l m) (Tm.dueL l m) w94 (Rd.ofOwn ((hv56.ch0 k56).ch0 p94)) (Rd.ofOwn ((hv63.ch0 k63).ch0 p94))) (fun v104 w104 hr104 => ?_)
    obtain ⟨rfl, hc104⟩ := hr104
    have p104 := p94.trans0 hc104
    refine TL.yes (rfl) ?_
    refine TL.pickT rfl rfl rfl rfl ?_
    refine TL.move rfl rfl ?_
    refine TL.guardYes (d := 106) rfl rfl rfl ?_
    refine TL.move rfl rfl ?_
    refine TL.guardYes (d := 106) rfl rfl rfl ?_
    refine TL.move rfl rfl ?_
    refine TL.guardYes (d := 106) rfl rfl rfl ?_
    refine TL.call can22 rfl rfl (fn22 _ _ (Tm.restL l m) (Tm.restL l m) w104 (Rd.ofOwn ((hu56.ch0 k56).ch0 p104)) (Rd.ofOwn ((hu63.ch0 k63).ch0 p104))) (fun v109 w109 hr109 => ?_)
    obtain ⟨rfl, hc109⟩ := hr109
    have p109 := p104.trans0 hc109
    refine TL.yes (rfl) ?_
    refine TL.pickT rfl rfl rfl rfl ?_
    refine TL.move rfl rfl ?_
    refine TL.guardYes (d := 111) rfl rfl rfl ?_
    refine TL.move rfl rfl ?_
    refine TL.guardYes (d := 111) rfl rfl rfl ?_
    refine TL.move rfl rfl ?_
    refine TL.guardYes (d := 111) rfl rfl rfl ?_
    refine TL.eql rfl rfl rfl ?_
    refine TL.yes (rfl) ?_
    refine TL.pickT rfl rfl rfl rfl ?_
    refine TL.move rfl rfl ?_
    refine TL.guardYes (d := 116) rfl rfl rfl ?_
    refine TL.move rfl rfl ?_
    refine TL.guardYes (d := 116) rfl rfl rfl ?_
    refine TL.move rfl rfl ?_
    refine TL.guardYes (d := 116) rfl rfl rfl ?_
    refine TL.call can22 rfl rfl (fn22 _ _ (Tm.dropL l k s) (Tm.dropL l k s) w109 (Rd.ofOwn ((hv71.ch0 hc78).ch0 p109)) (Rd.ofOwn (hv78.ch0 p109))) (fun v119 w119 hr119 => ?_)
    obtain ⟨rfl, hc119⟩ := hr119
    have p119 : Ch [] w78 w119 := p109.trans0 hc119
    have o44 := (hv44.ch0 k44).ch0 p119; have o56 := (hv56.ch0 k56).ch0 p119; have u56 := (hu56.ch0 k56).ch0 p119; have u63 := (hu63.ch0 k63).ch0 p119; have o71 := (hv71.ch0 hc78).ch0 p119
    have m44 := o44.1; have n44 := (Rd.ofOwn o44).nlt; have n56 := (Rd.ofOwn o56).nlt; have nu56 := (Rd.ofOwn u56).nlt; have n71 := (Rd.ofOwn o71).nlt
    refine TL.yes (rfl) ?_
    refine TL.pickT rfl rfl rfl rfl ?_
    refine TL.assign rfl rfl ?_
    refine TL.done ?_
    refine Thn.go ?_
    refine TC.seq ?_
    refine TC.seq ?_
    refine TC.region ?_
    refine TL.assign rfl rfl ?_
    refine TL.done ?_
    refine Thn.go ?_
    refine TC.block ?_
    refine TC.loop1 (fun (i : Nat) => [(0, .slice ad l.length c), (11, .slice (some ⟨g36, 0, none⟩) (l.length + 1) c36), (12, .slice (some ⟨g36, 0, none⟩) l.length c36), (13, .slice d44 (Tm.addL l t).length p44), (17, .slice d56 (Tm.dueL l m).length p56), (18, .slice du56 (Tm.restL l m).length pu56), (21, s63), (23, .slice d71 (Tm.dropL l k s).length p71), (27, .bool true), (28, .int .i64 (i : Int))]) (fun i w' => i ≤ (Tm.dueL l m).length ∧ (∃ D : List Tm.Timer, D.length = (Tm.dueL l m).length ∧ Own w' w50.heap.size 27 5 (.slice d56 (Tm.dueL l m).length p56) (Tm.dueL l m).length (D.flatMap cl)) ∧ Ch (blk (.slice d56 (Tm.dueL l m).length p56)) w119 w') (fun i => (Tm.dueL l m).length - i) 0 (by repeat (first | exact trivial | refine ⟨rfl, ?_⟩)) (⟨by omega, ⟨_, rfl, o56⟩, Ch.refl _ _⟩) (fun i wa hH => ?_)
    obtain ⟨hi, ⟨D, hD, hown⟩, hcha⟩ := hH
    refine TC.seq ?_
    refine TC.seq ?_
    refine TC.region ?_
    refine TL.move rfl rfl ?_
    refine TL.move rfl rfl ?_
    refine TL.lenSlice Try.underlying25 rfl rfl ?_
    refine TL.lss rfl rfl rfl ?_
    refine TL.done ?_
    refine Thn.go ?_
    refine TC.condP rfl (fun h2 => ?_) (fun h2 => ?_)
    ·
      have hil : i < (Tm.dueL l m).length := by omega
      obtain ⟨gs, cs, e⟩ := hown.form (by omega)
      cases e
      rw [← hD] at hown
      obtain ⟨cur, hcur, hcsz, hcn, _, hgb, _⟩ := hown.has
      refine TC.skip ?_
      refine Thn.go ?_
      refine TC.seq ?_
      refine TC.block ?_
      refine TC.region ?_
      refine TL.move rfl rfl ?_
      refine TL.move rfl rfl ?_
      refine TL.buildRec [1] [.const (Value.int IntKind.i64 77)] (cl r77) rfl rfl (by kernel_rfl) rfl ?_
      refine TL.indexAddr (i) sl25 rfl rfl (by first | rfl | omega) (by omega) rfl ?_
      refine TL.store sz27 rfl rfl rfl hcur (by omega) (by simpa [Value.cells] using cl_one r77) (.inl rfl) (fun ws1 hbs1 hcs1 hzs1 => ?_)
      have hown2 := hown.setRec cl_len hcur (k := i) (x := r77) (by omega) hbs1
      rw [hD] at hown2
      refine TL.done ?_
      refine Blk.go ?_
      refine Thn.go ?_
      refine TC.region ?_
      refine TL.move rfl rfl ?_
      refine TL.add_i64 rfl rfl (by omega) (by omega) rfl ?_
      refine TL.assign rfl rfl ?_
      refine TL.done ?_
      refine Lp.go (i + 1) (by repeat (first | exact trivial | refine ⟨rfl, ?_⟩)) ?_ (by first | omega | (dsimp only; omega))
      exact ⟨by omega, ⟨D.set i r77, by rw [List.length_set, hD], hown2⟩, hcha.trans hcs1 (fun x h _ => h) (fun x h _ => by simpa [blk, Value.ownBlock] using h)⟩
    ·
      have za : Ch [] w36 wa := o56.thenCh' (k36.trans0 p119) hcha (by omega)
      have ua := u56.ch hcha hap.notin
      have ra := (Rd.ofOwn u63).ch hcha (Own.away hv56 (Nat.le_refl _) hu63)
      have oa := o44.ch hcha (apartOf hv44 (by omega) hv56).symm.notin
      have ca := o71.ch hcha (Own.away hv56 (by omega) hv71)
      refine TC.exit ?_
      refine Thn.exit ?_
      refine Lp.exit ?_
      refine Blk.hit ?_
      refine Thn.go ?_
      refine TC.seq ?_
      refine TC.region ?_
      refine TL.move rfl rfl ?_
      refine TL.move rfl rfl ?_
      refine TL.guardYes (d := 132) rfl rfl rfl ?_
      refine TL.move rfl rfl ?_
      refine TL.guardYes (d := 132) rfl rfl rfl ?_
      refine TL.move rfl rfl ?_
      refine TL.guardYes (d := 132) rfl rfl rfl ?_
      refine TL.call can22 rfl rfl (fn22 _ _ (Tm.restL l m) (Tm.restL l m) wa (Rd.ofOwn ua) ra) (fun v135 w135 hr135 => ?_)
      obtain ⟨rfl, hc135⟩ := hr135
      refine TL.yes (rfl) ?_
      refine TL.pickT rfl rfl rfl rfl ?_
      refine TL.assign rfl rfl ?_
      refine TL.done ?_
      refine Thn.go ?_
      refine TC.seq ?_
      refine TC.seq ?_
      refine TC.region ?_
      refine TL.assign rfl rfl ?_
      refine TL.done ?_
      refine Thn.go ?_
      refine TC.block ?_
      refine TC.loop1 (fun (i : Nat) => [(0, .slice ad l.length c), (11, .slice (some ⟨g36, 0, none⟩) (l.length + 1) c36), (12, .slice (some ⟨g36, 0, none⟩) l.length c36), (13, .slice d44 (Tm.addL l t).length p44), (18, .slice du56 (Tm.restL l m).length pu56), (23, .slice d71 (Tm.dropL l k s).length p71), (27, .bool true), (29, .int .i64 (i : Int))]) (fun i w' => i ≤ (Tm.restL l m).length ∧ (∃ D : List Tm.Timer, D.length = (Tm.restL l m).length ∧ Own w' w50.heap.size 27 5 (.slice du56 (Tm.restL l m).length pu56) (Tm.restL l m).length (D.flatMap cl)) ∧ Ch (blk (.slice du56 (Tm.restL l m).length pu56)) w135 w') (fun i => (Tm.restL l m).length - i) 0 (by repeat (first | exact trivial | refine ⟨rfl, ?_⟩)) (⟨by omega, ⟨_, rfl, ua.ch0 hc135⟩, Ch.refl _ _⟩) (fun i2 wb hHb => ?_)
      obtain ⟨hi2, ⟨D2, hD2, hown⟩, hchb⟩ := hHb
      refine TC.seq ?_
      refine TC.seq ?_
      refine TC.region ?_
      refine TL.move rfl rfl ?_
      refine TL.move rfl rfl ?_
      refine TL.lenSlice Try.underlying25 rfl rfl ?_
      refine TL.lss rfl rfl rfl ?_
      refine TL.done ?_
      refine Thn.go ?_
      refine TC.condP rfl (fun h3 => ?_) (fun h3 => ?_)
      ·
        have hil : i2 < (Tm.restL l m).length := by omega
        obtain ⟨gs, cs, e⟩ := hown.form (by omega)
        cases e
        rw [← hD2] at hown
        obtain ⟨cur, hcur, hcsz, hcn, _, hgb, _⟩ := hown.has
        refine TC.skip ?_
        refine Thn.go ?_
        refine TC.seq ?_
        refine TC.block ?_
        refine TC.region ?_
        refine TL.move rfl rfl ?_
        refine TL.move rfl rfl ?_
        refine TL.buildRec [1] [.const (Value.int IntKind.i64 77)] (cl r77) rfl rfl (by kernel_rfl) rfl ?_
        refine TL.indexAddr (i2) sl25 rfl rfl (by first | rfl | omega) (by omega) rfl ?_
        refine TL.store sz27 rfl rfl rfl hcur (by omega) (by simpa [Value.cells] using cl_one r77) (.inl rfl) (fun ws1 hbs1 hcs1 hzs1 => ?_)
        have hown2 := hown.setRec cl_len hcur (k := i2) (x := r77) (by omega) hbs1
        rw [hD2] at hown2
        refine TL.done ?_
        refine Blk.go ?_
        refine Thn.go ?_
        refine TC.region ?_
        refine TL.move rfl rfl ?_
        refine TL.add_i64 rfl rfl (by omega) (by omega) rfl ?_
        refine TL.assign rfl rfl ?_
        refine TL.done ?_
        refine Lp.go (i2 + 1) (by repeat (first | exact trivial | refine ⟨rfl, ?_⟩)) ?_ (by first | omega | (dsimp only; omega))
        exact ⟨by omega, ⟨D2.set i2 r77, by rw [List.length_set, hD2], hown2⟩, hchb.trans hcs1 (fun x h _ => h) (fun x h _ => by simpa [blk, Value.ownBlock] using h)⟩
      ·
        have zb : Ch [] w36 wb := (ua.ch0 hc135).thenCh' (za.trans0 hc135) hchb (by omega)
        have ob := (oa.ch0 hc135).ch hchb (apartOf hv44 (by omega) hu56).symm.notin
        have cb := (ca.ch0 hc135).ch hchb (Own.away hu56 (by omega) hv71)
        refine TC.exit ?_
        refine Thn.exit ?_
        refine Lp.exit ?_
        refine Blk.hit ?_
        refine Thn.go ?_
        refine TC.seq ?_
        refine TC.seq ?_
        refine TC.region ?_
        refine TL.assign rfl rfl ?_
        refine TL.done ?_
        refine Thn.go ?_
        refine TC.block ?_
        refine TC.loop1 (fun (i : Nat) => [(0, .slice ad l.length c), (11, .slice (some ⟨g36, 0, none⟩) (l.length + 1) c36), (12, .slice (some ⟨g36, 0, none⟩) l.length c36), (13, .slice d44 (Tm.addL l t).length p44), (23, .slice d71 (Tm.dropL l k s).length p71), (27, .bool true), (30, .int .i64 (i : Int))]) (fun i w' => i ≤ (Tm.addL l t).length ∧ (∃ D : List Tm.Timer, D.length = (Tm.addL l t).length ∧ Own w' w36.heap.size 27 5 (.slice d44 (Tm.addL l t).length p44) (Tm.addL l t).length (D.flatMap cl)) ∧ Ch (blk (.slice d44 (Tm.addL l t).length p44)) wb w') (fun i => (Tm.addL l t).length - i) 0 (by repeat (first | exact trivial | refine ⟨rfl, ?_⟩)) (⟨by omega, ⟨_, rfl, ob⟩, Ch.refl _ _⟩) (fun i3 wc hHc => ?_)
        obtain ⟨hi3, ⟨D3, hD3, hown⟩, hchc⟩ := hHc
        refine TC.seq ?_
        refine TC.seq ?_
        refine TC.region ?_
        refine TL.move rfl rfl ?_
        refine TL.move rfl rfl ?_
        refine TL.lenSlice Try.underlying25 rfl rfl ?_
        refine TL.lss rfl rfl rfl ?_
        refine TL.done ?_
        refine Thn.go ?_
        refine TC.condP rfl (fun h4 => ?_) (fun h4 => ?_)
        ·
          have hil : i3 < (Tm.addL l t).length := by omega
          obtain ⟨gs, cs, e⟩ := hown.form (by omega)
          cases e
          rw [← hD3] at hown
          obtain ⟨cur, hcur, hcsz, hcn, _, hgb, _⟩ := hown.has
          refine TC.skip ?_
          refine Thn.go ?_
          refine TC.seq ?_
          refine TC.block ?_
          refine TC.region ?_
          refine TL.move rfl rfl ?_
          refine TL.move rfl rfl ?_
          refine TL.buildRec [1] [.const (Value.int IntKind.i64 77)] (cl r77) rfl rfl (by kernel_rfl) rfl ?_
          refine TL.indexAddr (i3) sl25 rfl rfl (by first | rfl | omega) (by omega) rfl ?_
          refine TL.store sz27 rfl rfl rfl hcur (by omega) (by simpa [Value.cells] using cl_one r77) (.inl rfl) (fun ws1 hbs1 hcs1 hzs1 => ?_)
          have hown2 := hown.setRec cl_len hcur (k := i3) (x := r77) (by omega) hbs1
          rw [hD3] at hown2
          refine TL.done ?_
          refine Blk.go ?_
          refine Thn.go ?_
          refine TC.region ?_
          refine TL.move rfl rfl ?_
          refine TL.add_i64 rfl rfl (by omega) (by omega) rfl ?_
          refine TL.assign rfl rfl ?_
          refine TL.done ?_
          refine Lp.go (i3 + 1) (by repeat (first | exact trivial | refine ⟨rfl, ?_⟩)) ?_ (by first | omega | (dsimp only; omega))
          exact ⟨by omega, ⟨D3.set i3 r77, by rw [List.length_set, hD3], hown2⟩, hchc.trans hcs1 (fun x h _ => h) (fun x h _ => by simpa [blk, Value.ownBlock] using h)⟩
        ·
          have zc : Ch [] w36 wc := ob.thenCh' zb hchc (Nat.le_refl _)
          have cc := cb.ch hchc (Own.away hv44 (by omega) hv71)
          refine TC.exit ?_
          refine Thn.exit ?_
          refine Lp.exit ?_
          refine Blk.hit ?_
          refine Thn.go ?_
          refine TC.seq ?_
          refine TC.seq ?_
          refine TC.region ?_
          refine TL.assign rfl rfl ?_
          refine TL.done ?_
          refine Thn.go ?_
          refine TC.block ?_
          refine TC.loop1 (fun (i : Nat) => [(0, .slice ad l.length c), (11, .slice (some ⟨g36, 0, none⟩) (l.length + 1) c36), (12, .slice (some ⟨g36, 0, none⟩) l.length c36), (23, .slice d71 (Tm.dropL l k s).length p71), (27, .bool true), (31, .int .i64 (i : Int))]) (fun i w' => i ≤ (Tm.dropL l k s).length ∧ (∃ D : List Tm.Timer, D.length = (Tm.dropL l k s).length ∧ Own w' w63.heap.size 27 5 (.slice d71 (Tm.dropL l k s).length p71) (Tm.dropL l k s).length (D.flatMap cl)) ∧ Ch (blk (.slice d71 (Tm.dropL l k s).length p71)) wc w') (fun i => (Tm.dropL l k s).length - i) 0 (by repeat (first | exact trivial | refine ⟨rfl, ?_⟩)) (⟨by omega, ⟨_, rfl, cc⟩, Ch.refl _ _⟩) (fun i4 wd hHd => ?_)
          obtain ⟨hi4, ⟨D4, hD4, hown⟩, hchd⟩ := hHd
          refine TC.seq ?_
          refine TC.seq ?_
          refine TC.region ?_
          refine TL.move rfl rfl ?_
          refine TL.move rfl rfl ?_
          refine TL.lenSlice Try.underlying25 rfl rfl ?_
          refine TL.lss rfl rfl rfl ?_
          refine TL.done ?_
          refine Thn.go ?_
          refine TC.condP rfl (fun h5 => ?_) (fun h5 => ?_)
          ·
            have hil : i4 < (Tm.dropL l k s).length := by omega
            obtain ⟨gs, cs, e⟩ := hown.form (by omega)
            cases e
            rw [← hD4] at hown
            obtain ⟨cur, hcur, hcsz, hcn, _, hgb, _⟩ := hown.has
            refine TC.skip ?_
            refine Thn.go ?_
            refine TC.seq ?_
            refine TC.block ?_
            refine TC.region ?_
            refine TL.move rfl rfl ?_
            refine TL.move rfl rfl ?_
            refine TL.buildRec [1] [.const (Value.int IntKind.i64 77)] (cl r77) rfl rfl (by kernel_rfl) rfl ?_
            refine TL.indexAddr (i4) sl25 rfl rfl (by first | rfl | omega) (by omega) rfl ?_
            refine TL.store sz27 rfl rfl rfl hcur (by omega) (by simpa [Value.cells] using cl_one r77) (.inl rfl) (fun ws1 hbs1 hcs1 hzs1 => ?_)
            have hown2 := hown.setRec cl_len hcur (k := i4) (x := r77) (by omega) hbs1
            rw [hD4] at hown2
            refine TL.done ?_
            refine Blk.go ?_
            refine Thn.go ?_
            refine TC.region ?_
            refine TL.move rfl rfl ?_
            refine TL.add_i64 rfl rfl (by omega) (by omega) rfl ?_
            refine TL.assign rfl rfl ?_
            refine TL.done ?_
            refine Lp.go (i4 + 1) (by repeat (first | exact trivial | refine ⟨rfl, ?_⟩)) ?_ (by first | omega | (dsimp only; omega))
            exact ⟨by omega, ⟨D4.set i4 r77, by rw [List.length_set, hD4], hown2⟩, hchd.trans hcs1 (fun x h _ => h) (fun x h _ => by simpa [blk, Value.ownBlock] using h)⟩
          ·
            have zd : Ch [] w36 wd := cc.thenCh' zc hchd (by omega)
            refine TC.exit ?_
            refine Thn.exit ?_
            refine Lp.exit ?_
            refine Blk.hit ?_
            refine Thn.go ?_
            refine TC.seq ?_
            refine TC.region ?_
            refine TL.move rfl rfl ?_
            refine TL.move rfl rfl ?_
            refine TL.guardYes (d := 168) rfl rfl rfl ?_
            refine TL.move rfl rfl ?_
            refine TL.guardYes (d := 168) rfl rfl rfl ?_
            refine TL.move rfl rfl ?_
            refine TL.guardYes (d := 168) rfl rfl rfl ?_
            refine TL.call can22 rfl rfl (fn22 _ _ l l wd (ho.ch0 zd) ((ha6.ch0 hc36).ch0 zd)) (fun v171 w171 hr171 => ?_)
            obtain ⟨rfl, hc171⟩ := hr171
            refine TL.yes (rfl) ?_
            refine TL.pickT rfl rfl rfl rfl ?_
            refine TL.move rfl rfl ?_
            refine TL.guardYes (d := 173) rfl rfl rfl ?_
            refine TL.move rfl rfl ?_
            refine TL.guardYes (d := 173) rfl rfl rfl ?_
            refine TL.move rfl rfl ?_
            refine TL.guardYes (d := 173) rfl rfl rfl ?_
            refine TL.lenSlice Try.underlying25 rfl rfl ?_
            refine TL.guardYes (d := 173) rfl rfl rfl ?_
            refine TL.indexAddr (l.length) sl25 rfl rfl (by first | rfl | omega) (by omega) rfl ?_
            refine TL.guardYes (d := 173) rfl rfl rfl ?_
            refine TL.loadAgg (cl r77) ag27 rfl rfl (fun j hj => by obtain ⟨b', o', e, hh⟩ := recAt (i := l.length) (l := l ++ [r77]) (by rw [List.length_append]; exact ((Rd.ofOwn hv36).ch0 zd).ch0 hc171) (by simp); cases e; rw [Tm.rec_last] at hh; exact hh j hj) rfl ?_
            refine TL.guardYes (d := 173) rfl rfl rfl ?_
            refine TL.buildRec [1] [.const (Value.int IntKind.i64 77)] (cl r77) rfl rfl (by kernel_rfl) rfl ?_
            refine TL.guardYes (d := 173) rfl rfl rfl ?_
            refine TL.eqlAgg gd27 (eqTimer _ _ _) rfl rfl rfl ?_
            refine TL.yes (rfl) ?_
            refine TL.pickT rfl rfl rfl rfl ?_
            refine TL.assign rfl rfl ?_
            refine TL.done ?_
            refine Thn.go ?_
            refine TC.ret ?_
            refine Ends.ret [10] rfl rfl ?_
            exact ⟨rfl, hc6.trans0 (hc36.trans0 (zd.trans0 hc171))⟩

