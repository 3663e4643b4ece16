/-
  Walks through the given program: each theorem fnN says what the call of function N of the translation hands back, for all arguments that its premises describe, and that nothing that was there has turned.
-/
import Derived.Test.YtemfaondlhglbaaT18
namespace Go.Proofs.Ytemfaondlhglbaa
open Go.Lane


theorem fn11zero (H : Nat) (v : Value) (t : Tm.Timer) (w : World) (hH : Has w H #[v, .bool false] 56 (0, 0)) : Rets Try.prog 11 #[.pointer (some ⟨H, 0, none⟩), .agg (cl t).toArray] w (fun r w' => r = .int .i64 1 ∧ Ch [] w w') := by
  refine Rets.of (n := 40) (vs := [_, _]) Try.func11 rfl rfl rfl ?_
  refine TC.seq ?_
  refine TC.region ?_
  refine TL.box rfl rfl (fun w3 hb3 hc3 hz3 => ?_)
  refine TL.assign rfl rfl ?_
  refine TL.done ?_
  refine Thn.go ?_
  refine TC.seq ?_
  refine TC.block ?_
  refine TC.seq ?_
  refine TC.region ?_
  refine TL.move rfl rfl ?_
  refine TL.eqlPtrNil Try.underlying23 rfl rfl rfl ?_
  refine TL.no (by simp) ?_
  refine TL.move rfl rfl ?_
  refine TL.guardYes (d := 8) rfl rfl rfl ?_
  refine TL.move rfl rfl ?_
  refine TL.guardYes (d := 8) rfl rfl rfl ?_
  refine TL.nilCheck rfl rfl ?_
  refine TL.guardYes (d := 8) rfl rfl rfl ?_
  refine TL.fieldAddr fd56k1 rfl rfl ?_
  refine TL.guardYes (d := 8) rfl rfl rfl ?_
  refine TL.load pl4 rfl ((hH.ch0 hc3).cell 1) rfl ?_
  refine TL.guardYes (d := 8) rfl rfl rfl ?_
  refine TL.not rfl rfl ?_
  refine TL.pickF rfl rfl rfl rfl ?_
  refine TL.assign rfl rfl ?_
  refine TL.done ?_
  refine Thn.go ?_
  refine TC.condT rfl rfl ?_
  refine TC.seq ?_
  refine TC.region ?_
  refine TL.assign rfl rfl ?_
  refine TL.done ?_
  refine Thn.go ?_
  refine TC.ret ?_
  refine Blk.ret ?_
  refine Thn.ret ?_
  refine Ends.ret [4] rfl rfl ?_
  exact ⟨rfl, hc3⟩

theorem fn7 (w : World) : Rets Try.prog 7 #[] w (fun v w' => v = .bool true ∧ Ch [] w w') := by
  have e26 : Tm.addE [atT 5 0, atT 5 1] (atT 3 2) = 0 := by decide +kernel
  have f26 : Tm.addL [atT 5 0, atT 5 1] (atT 3 2) = [atT 3 2, atT 5 0, atT 5 1] := by decide +kernel
  have e32 : Tm.addE [atT 5 0, atT 5 1] (atT 9 1) = 8 := by decide +kernel
  have e37 : Tm.dueE [atT 3 2, atT 5 0, atT 5 1] 5 = 0 := by decide +kernel
  have f37 : Tm.dueL [atT 3 2, atT 5 0, atT 5 1] 5 = [atT 3 2, atT 5 0, atT 5 1] := by decide +kernel
  have g37 : Tm.restL [atT 3 2, atT 5 0, atT 5 1] 5 = [] := by decide +kernel
  have e43 : Tm.dueE [atT 3 2, atT 5 0, atT 5 1] 4 = 0 := by decide +kernel
  have f43 : Tm.dueL [atT 3 2, atT 5 0, atT 5 1] 4 = [atT 3 2] := by decide +kernel
  have g43 : Tm.restL [atT 3 2, atT 5 0, atT 5 1] 4 = [atT 5 0, atT 5 1] := by decide +kernel
  refine Rets.of (n := 125) (vs := []) Try.func7 rfl rfl rfl ?_
  refine TC.seq ?_
  refine TC.region ?_
  refine TL.assign rfl rfl ?_
  refine TL.done ?_
  refine Thn.go ?_
  refine TC.seq ?_
  refine TC.region ?_
  refine TL.call can23 rfl rfl (fn23 5 0 w) (fun v20 w20 hr20 => ?_)
  obtain ⟨rfl, hc20⟩ := hr20
  refine TL.call can23 rfl rfl (fn23 5 1 w20) (fun v21 w21 hr21 => ?_)
  obtain ⟨rfl, hc21⟩ := hr21
  refine TL.buildSlice [.tmp 20, .tmp 21] sl25 rfl rfl rfl (by decide) (by first | simp [Value.cells]; done | simp [Value.cells, cl_len]; done) rfl (fun w22 hb22 hc22 hz22 => ?_)
  have q22 := hc20.trans0 (hc21.trans0 hc22)
  have hl22 : Rd w22 (.slice (some ⟨w21.heap.size, 0, none⟩) 2 2) 5 2 ([atT 5 0, atT 5 1].flatMap cl) := Rd.ofFlat (vs := [.agg (cl (atT 5 0)).toArray, .agg (cl (atT 5 1)).toArray]) hb22 (by simp [Value.cells, cl_len]) rfl (by decide)
  refine TL.assign rfl rfl ?_
  refine TL.done ?_
  refine Thn.go ?_
  refine TC.seq ?_
  refine TC.region ?_
  refine TL.move rfl rfl ?_
  refine TL.call can23 rfl rfl (fn23 3 2 w22) (fun v25 w25 hr25 => ?_)
  obtain ⟨rfl, hc25⟩ := hr25
  refine TL.call can16 rfl rfl (fn16 _ [atT 5 0, atT 5 1] (atT 3 2) w25 (hl22.ch0 hc25)) (fun v26 w26 hr26 => ?_)
  rw [e26, f26] at hr26
  obtain ⟨r26, rfl, hv26, hc26⟩ := hr26
  obtain ⟨g26, c26, rfl⟩ := hv26.form (by decide)
  refine TL.move rfl rfl ?_
  refine TL.extract rfl rfl rfl ?_
  refine TL.extract rfl rfl rfl ?_
  refine TL.assign rfl rfl ?_
  refine TL.assign rfl rfl ?_
  refine TL.done ?_
  refine Thn.go ?_
  refine TC.seq ?_
  refine TC.region ?_
  refine TL.move rfl rfl ?_
  refine TL.call can23 rfl rfl (fn23 9 1 w26) (fun v31 w31 hr31 => ?_)
  obtain ⟨rfl, hc31⟩ := hr31
  have k31 := hc25.trans0 (hc26.trans0 hc31)
  refine TL.call can16 rfl rfl (fn16 _ [atT 5 0, atT 5 1] (atT 9 1) w31 (hl22.ch0 k31)) (fun v32 w32 hr32 => ?_)
  rw [e32] at hr32
  obtain ⟨r32, rfl, _, hc32⟩ := hr32
  refine TL.move rfl rfl ?_
  refine TL.extract rfl rfl rfl ?_
  refine TL.extract rfl rfl rfl ?_
  refine TL.assign rfl rfl ?_
  refine TL.assign rfl rfl ?_
  refine TL.done ?_
  refine Thn.go ?_
  refine TC.seq ?_
  refine TC.region ?_
  refine TL.move rfl rfl ?_
  refine TL.call can13 rfl rfl (fn13 _ [atT 3 2, atT 5 0, atT 5 1] 5 w32 (Rd.ofOwn ((hv26.ch0 hc31).ch0 hc32))) (fun v37 w37 hr37 => ?_)
  rw [e37, f37, g37] at hr37
  obtain ⟨r37, s37, rfl, hv37, hu37, _, hc37⟩ := hr37
  obtain ⟨g37, c37, rfl⟩ := hv37.shape
  obtain ⟨h37, d37, rfl⟩ := hu37.shape
  refine TL.move rfl rfl ?_
  refine TL.extract rfl rfl rfl ?_
  refine TL.extract rfl rfl rfl ?_
  refine TL.extract rfl rfl rfl ?_
  refine TL.assign rfl rfl ?_
  refine TL.assign rfl rfl ?_
  refine TL.assign rfl rfl ?_
  refine TL.done ?_
  refine Thn.go ?_
  refine TC.seq ?_
  refine TC.region ?_
  refine TL.move rfl rfl ?_
  refine TL.call can13 rfl rfl (fn13 _ [atT 3 2, atT 5 0, atT 5 1] 4 w37 (Rd.ofOwn (((hv26.ch0 hc31).ch0 hc32).ch0 hc37))) (fun v43 w43 hr43 => ?_)
  rw [e43, f43, g43] at hr43
  obtain ⟨r43, s43, rfl, hv43, hu43, _, hc43⟩ := hr43
  obtain ⟨g43, c43, rfl⟩ := hv43.shape
  obtain ⟨h43, d43, rfl⟩ := hu43.shape
  have k43 : Ch [] w26 w43 := hc31.trans0 (hc32.trans0 (hc37.trans0 hc43))
  have q43 : Ch [] w w43 := q22.trans0 (hc25.trans0 (hc26.trans0 k43))
  refine TL.move rfl rfl ?_
  refine TL.extract rfl rfl rfl ?_
  refine TL.extract rfl rfl rfl ?_
  refine TL.extract rfl rfl rfl ?_
  refine TL.assign rfl rfl ?_
  refine TL.assign rfl rfl ?_
  refine TL.assign rfl rfl ?_
  refine TL.done ?_
  refine Thn.go ?_
  refine TC.seq ?_
  refine TC.regionQ (fun w6 => Ch [] w43 w6) mixed0 (by kernel_rfl) (Ch.drew [] _) ?_
  refine TQ.via rfl rfl rfl rfl (fun w2 hw2 => TL.move rfl rfl (TL.done ⟨rfl, rfl⟩)) ?_
  refine TQ.via rfl rfl rfl rfl (fun w2 hw2 => TL.eql rfl rfl rfl (TL.done ⟨rfl, rfl⟩)) ?_
  refine TQ.yes (rfl) ?_
  refine TQ.via rfl rfl rfl rfl (fun w2 hw2 => TL.move rfl rfl (TL.done ⟨rfl, rfl⟩)) ?_
  refine TQ.guardYes (d := 49) rfl rfl rfl ?_
  refine TQ.via rfl rfl rfl rfl (fun w2 hw2 => TL.move rfl rfl (TL.done ⟨rfl, rfl⟩)) ?_
  refine TQ.guardYes (d := 49) rfl rfl rfl ?_
  refine TQ.via rfl rfl rfl rfl (fun w2 hw2 => TL.lenSlice Try.underlying25 rfl rfl (TL.done ⟨rfl, rfl⟩)) ?_
  refine TQ.guardYes (d := 49) rfl rfl rfl ?_
  refine TQ.via rfl rfl rfl rfl (fun w2 hw2 => TL.eql rfl rfl rfl (TL.done ⟨rfl, rfl⟩)) ?_
  refine TQ.yes (rfl) ?_
  refine TQ.via rfl rfl rfl rfl (fun w2 hw2 => TL.pickT rfl rfl rfl rfl (TL.done ⟨rfl, rfl⟩)) ?_
  refine TQ.via rfl rfl rfl rfl (fun w2 hw2 => TL.move rfl rfl (TL.done ⟨rfl, rfl⟩)) ?_
  refine TQ.guardYes (d := 54) rfl rfl rfl ?_
  refine TQ.via rfl rfl rfl rfl (fun w2 hw2 => TL.move rfl rfl (TL.done ⟨rfl, rfl⟩)) ?_
  refine TQ.guardYes (d := 54) rfl rfl rfl ?_
  refine TQ.via rfl rfl rfl rfl (fun w2 hw2 => TL.indexAddr (0) sl25 rfl rfl rfl (by decide) rfl (TL.done ⟨rfl, rfl⟩)) ?_
  refine TQ.guardYes (d := 54) rfl rfl rfl ?_
  refine TQ.via rfl rfl rfl rfl (fun w2 hw2 => TL.loadAgg (cl (atT 3 2)) ag27 rfl rfl (fun j hj => by obtain ⟨b', o', e, hh⟩ := recAt (i := 0) (l := [atT 3 2, atT 5 0, atT 5 1]) ((Rd.ofOwn hv26).ch0 (k43.trans0 hw2)) (by decide); cases e; exact hh j hj) rfl (TL.done ⟨rfl, rfl⟩)) ?_
  refine TQ.guardYes (d := 54) rfl rfl rfl ?_
  refine TQ.call (.agg (cl (atT 3 2)).toArray) can23 rfl rfl (fun w2 hw2 => (fn23 3 2 w2).mono (fun _ _ ⟨q1, q2⟩ => ⟨q1, hw2.trans0 q2⟩)) ?_
  refine TQ.guardYes (d := 54) rfl rfl rfl ?_
  refine TQ.via rfl rfl rfl rfl (fun w2 hw2 => TL.eqlAgg gd27 (eqTimer _ _ _) rfl rfl rfl (TL.done ⟨rfl, rfl⟩)) ?_
  refine TQ.yes (rfl) ?_
  refine TQ.via rfl rfl rfl rfl (fun w2 hw2 => TL.pickT rfl rfl rfl rfl (TL.done ⟨rfl, rfl⟩)) ?_
  refine TQ.via rfl rfl rfl rfl (fun w2 hw2 => TL.move rfl rfl (TL.done ⟨rfl, rfl⟩)) ?_
  refine TQ.guardYes (d := 61) rfl rfl rfl ?_
  refine TQ.via rfl rfl rfl rfl (fun w2 hw2 => TL.move rfl rfl (TL.done ⟨rfl, rfl⟩)) ?_
  refine TQ.guardYes (d := 61) rfl rfl rfl ?_
  refine TQ.via rfl rfl rfl rfl (fun w2 hw2 => TL.eql rfl rfl rfl (TL.done ⟨rfl, rfl⟩)) ?_
  refine TQ.yes (rfl) ?_
  refine TQ.via rfl rfl rfl rfl (fun w2 hw2 => TL.pickT rfl rfl rfl rfl (TL.done ⟨rfl, rfl⟩)) ?_
  refine TQ.via rfl rfl rfl rfl (fun w2 hw2 => TL.move rfl rfl (TL.done ⟨rfl, rfl⟩)) ?_
  refine TQ.guardYes (d := 65) rfl rfl rfl ?_
  refine TQ.via rfl rfl rfl rfl (fun w2 hw2 => TL.move rfl rfl (TL.done ⟨rfl, rfl⟩)) ?_
  refine TQ.guardYes (d := 65) rfl rfl rfl ?_
  refine TQ.via rfl rfl rfl rfl (fun w2 hw2 => TL.eql rfl rfl rfl (TL.done ⟨rfl, rfl⟩)) ?_
  refine TQ.yes (rfl) ?_
  refine TQ.via rfl rfl rfl rfl (fun w2 hw2 => TL.pickT rfl rfl rfl rfl (TL.done ⟨rfl, rfl⟩)) ?_
  refine TQ.via rfl rfl rfl rfl (fun w2 hw2 => TL.move rfl rfl (TL.done ⟨rfl, rfl⟩)) ?_
  refine TQ.guardYes (d := 69) rfl rfl rfl ?_
  refine TQ.via rfl rfl rfl rfl (fun w2 hw2 => TL.move rfl rfl (TL.done ⟨rfl, rfl⟩)) ?_
  refine TQ.guardYes (d := 69) rfl rfl rfl ?_
  refine TQ.via rfl rfl rfl rfl (fun w2 hw2 => TL.lenSlice Try.underlying25 rfl rfl (TL.done ⟨rfl, rfl⟩)) ?_
  refine TQ.guardYes (d := 69) rfl rfl rfl ?_
  refine TQ.via rfl rfl rfl rfl (fun w2 hw2 => TL.eql rfl rfl rfl (TL.done ⟨rfl, rfl⟩)) ?_
  refine TQ.yes (rfl) ?_
  refine TQ.via rfl rfl rfl rfl (fun w2 hw2 => TL.pickT rfl rfl rfl rfl (TL.done ⟨rfl, rfl⟩)) ?_
  refine TQ.via rfl rfl rfl rfl (fun w2 hw2 => TL.move rfl rfl (TL.done ⟨rfl, rfl⟩)) ?_
  refine TQ.guardYes (d := 74) rfl rfl rfl ?_
  refine TQ.via rfl rfl rfl rfl (fun w2 hw2 => TL.move rfl rfl (TL.done ⟨rfl, rfl⟩)) ?_
  refine TQ.guardYes (d := 74) rfl rfl rfl ?_
  refine TQ.via rfl rfl rfl rfl (fun w2 hw2 => TL.lenSlice Try.underlying25 rfl rfl (TL.done ⟨rfl, rfl⟩)) ?_
  refine TQ.guardYes (d := 74) rfl rfl rfl ?_
  refine TQ.via rfl rfl rfl rfl (fun w2 hw2 => TL.eql rfl rfl rfl (TL.done ⟨rfl, rfl⟩)) ?_
  refine TQ.yes (rfl) ?_
  refine TQ.via rfl rfl rfl rfl (fun w2 hw2 => TL.pickT rfl rfl rfl rfl (TL.done ⟨rfl, rfl⟩)) ?_
  refine TQ.via rfl rfl rfl rfl (fun w2 hw2 => TL.move rfl rfl (TL.done ⟨rfl, rfl⟩)) ?_
  refine TQ.guardYes (d := 79) rfl rfl rfl ?_
  refine TQ.via rfl rfl rfl rfl (fun w2 hw2 => TL.move rfl rfl (TL.done ⟨rfl, rfl⟩)) ?_
  refine TQ.guardYes (d := 79) rfl rfl rfl ?_
  refine TQ.via rfl rfl rfl rfl (fun w2 hw2 => TL.eql rfl rfl rfl (TL.done ⟨rfl, rfl⟩)) ?_
  refine TQ.yes (rfl) ?_
  refine TQ.via rfl rfl rfl rfl (fun w2 hw2 => TL.pickT rfl rfl rfl rfl (TL.done ⟨rfl, rfl⟩)) ?_
  refine TQ.via rfl rfl rfl rfl (fun w2 hw2 => TL.move rfl rfl (TL.done ⟨rfl, rfl⟩)) ?_
  refine TQ.guardYes (d := 83) rfl rfl rfl ?_
  refine TQ.via rfl rfl rfl rfl (fun w2 hw2 => TL.move rfl rfl (TL.done ⟨rfl, rfl⟩)) ?_
  refine TQ.guardYes (d := 83) rfl rfl rfl ?_
  refine TQ.via rfl rfl rfl rfl (fun w2 hw2 => TL.lenSlice Try.underlying25 rfl rfl (TL.done ⟨rfl, rfl⟩)) ?_
  refine TQ.guardYes (d := 83) rfl rfl rfl ?_
  refine TQ.via rfl rfl rfl rfl (fun w2 hw2 => TL.eql rfl rfl rfl (TL.done ⟨rfl, rfl⟩)) ?_
  refine TQ.yes (rfl) ?_
  refine TQ.via rfl rfl rfl rfl (fun w2 hw2 => TL.pickT rfl rfl rfl rfl (TL.done ⟨rfl, rfl⟩)) ?_
  refine TQ.via rfl rfl rfl rfl (fun w2 hw2 => TL.move rfl rfl (TL.done ⟨rfl, rfl⟩)) ?_
  refine TQ.guardYes (d := 88) rfl rfl rfl ?_
  refine TQ.via rfl rfl rfl rfl (fun w2 hw2 => TL.move rfl rfl (TL.done ⟨rfl, rfl⟩)) ?_
  refine TQ.guardYes (d := 88) rfl rfl rfl ?_
  refine TQ.via rfl rfl rfl rfl (fun w2 hw2 => TL.lenSlice Try.underlying25 rfl rfl (TL.done ⟨rfl, rfl⟩)) ?_
  refine TQ.guardYes (d := 88) rfl rfl rfl ?_
  refine TQ.via rfl rfl rfl rfl (fun w2 hw2 => TL.eql rfl rfl rfl (TL.done ⟨rfl, rfl⟩)) ?_
  refine TQ.yes (rfl) ?_
  refine TQ.via rfl rfl rfl rfl (fun w2 hw2 => TL.pickT rfl rfl rfl rfl (TL.done ⟨rfl, rfl⟩)) ?_
  refine TQ.via rfl rfl rfl rfl (fun w2 hw2 => TL.assign rfl rfl (TL.done ⟨rfl, rfl⟩)) ?_
  refine TQ.done (fun w2 hw2 => ?_)
  have q6 := q43.trans0 hw2
  refine Thn.go ?_
  refine TC.seq ?_
  refine TC.region ?_
  refine TL.assign rfl rfl ?_
  refine TL.done ?_
  refine Thn.go ?_
  refine TC.seq ?_
  refine TC.region ?_
  refine TL.move rfl rfl ?_
  refine TL.call can9 rfl rfl (fn9nil w2) (fun v95 w95 hr95 => ?_)
  obtain ⟨rfl, hc95⟩ := hr95
  refine TL.move rfl rfl ?_
  refine TL.extract rfl rfl rfl ?_
  refine TL.extract rfl rfl rfl ?_
  refine TL.extract rfl rfl rfl ?_
  refine TL.alloc ze27 rfl (fun w14 hb14 hc14 hz14 => ?_)
  refine TL.store sz27 rfl rfl rfl hb14 (by simp [Value.cells]) (by simpa [Value.cells] using cl_one (Tm.rec [] 0)) (.inl rfl) (fun ws1 hbs1 hcs1 hzs1 => ?_)
  have q14 := (q6.trans0 hc95).trans0 (hc14.then1 hcs1 (Nat.le_refl _))
  refine TL.assign rfl rfl ?_
  refine TL.assign rfl rfl ?_
  refine TL.done ?_
  refine Thn.go ?_
  refine TC.seq ?_
  refine TC.region ?_
  refine TL.move rfl rfl ?_
  refine TL.call can23 rfl rfl (fn23 1 1 ws1) (fun v100 w100 hr100 => ?_)
  obtain ⟨rfl, hc100⟩ := hr100
  refine TL.call can11 rfl rfl (fn11nil (atT 1 1) w100) (fun v101 w101 hr101 => ?_)
  obtain ⟨rfl, hc101⟩ := hr101
  refine TL.assign rfl rfl ?_
  refine TL.done ?_
  refine Thn.go ?_
  refine TC.seq ?_
  refine TC.region ?_
  refine TL.buildRec [] [] ([.slice none 0 0, .bool false]) rfl rfl (by kernel_rfl) rfl ?_
  refine TL.box rfl rfl (fun w103 hb103 hc103 hz103 => ?_)
  refine TL.assign rfl rfl ?_
  refine TL.done ?_
  refine Thn.go ?_
  refine TC.seq ?_
  refine TC.region ?_
  refine TL.move rfl rfl ?_
  refine TL.call can23 rfl rfl (fn23 1 1 w103) (fun v105 w105 hr105 => ?_)
  obtain ⟨rfl, hc105⟩ := hr105
  refine TL.call can11 rfl rfl (fn11zero w101.heap.size (.slice none 0 0) (atT 1 1) w105 (Has.ch0 (show Has w103 w101.heap.size #[.slice none 0 0, .bool false] 56 (0, 0) from hb103) hc105)) (fun v106 w106 hr106 => ?_)
  obtain ⟨rfl, hc106⟩ := hr106
  refine TL.assign rfl rfl ?_
  refine TL.done ?_
  refine Thn.go ?_
  refine TC.seq ?_
  refine TC.region ?_
  refine TL.move rfl rfl ?_
  refine TL.guardYes (d := 107) rfl rfl rfl ?_
  refine TL.call can12 rfl rfl (fn12 w106) (fun v108 w108 hr108 => ?_)
  obtain ⟨rfl, hc108⟩ := hr108
  refine TL.pickT rfl rfl rfl rfl ?_
  refine TL.move rfl rfl ?_
  refine TL.guardYes (d := 110) rfl rfl rfl ?_
  refine TL.move rfl rfl ?_
  refine TL.pickT rfl rfl rfl rfl ?_
  refine TL.move rfl rfl ?_
  refine TL.guardYes (d := 113) rfl rfl rfl ?_
  refine TL.move rfl rfl ?_
  refine TL.guardYes (d := 113) rfl rfl rfl ?_
  refine TL.eql rfl rfl rfl ?_
  refine TL.yes (rfl) ?_
  refine TL.pickT rfl rfl rfl rfl ?_
  refine TL.move rfl rfl ?_
  refine TL.guardYes (d := 117) rfl rfl rfl ?_
  refine TL.move rfl rfl ?_
  refine TL.guardYes (d := 117) rfl rfl rfl ?_
  refine TL.eql rfl rfl rfl ?_
  refine TL.yes (rfl) ?_
  refine TL.pickT rfl rfl rfl rfl ?_
  refine TL.move rfl rfl ?_
  refine TL.guardYes (d := 121) rfl rfl rfl ?_
  refine TL.move rfl rfl ?_
  refine TL.guardYes (d := 121) rfl rfl rfl ?_
  refine TL.eql rfl rfl rfl ?_
  refine TL.yes (rfl) ?_
  refine TL.pickT rfl rfl rfl rfl ?_
  refine TL.assign rfl rfl ?_
  refine TL.done ?_
  refine Thn.go ?_
  refine TC.ret ?_
  refine Ends.ret [0] rfl rfl ?_
  exact ⟨rfl, q14.trans0 (hc100.trans0 (hc101.trans0 (hc103.trans0 (hc105.trans0 (hc106.trans0 hc108)))))⟩

