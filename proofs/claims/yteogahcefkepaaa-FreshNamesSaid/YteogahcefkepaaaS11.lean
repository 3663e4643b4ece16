/-
  Walks through the given program: each theorem fnN says what the call of function N of the translation hands back, for all arguments that its premises describe, and that nothing that was there has turned.
-/
import Derived.Test.YteogahcefkepaaaS10
namespace Go.Proofs.Yteogahcefkepaaa
open Go.Lane


theorem fn6 (w : World) : Rets Try.prog 6 #[] w (fun r w' => r = .bool true ∧ Ch [] w w') := by
  have e24 : En.findE [ofE [97] 2, ofE [97] 1] [97] 2 = 0 := by decide +kernel
  have f24 : En.findX [ofE [97] 2, ofE [97] 1] [97] 2 = some (ofE [97] 2) := by decide +kernel
  have e30 : En.findE [ofE [97] 2, ofE [97] 1] [97] 0 = 0 := by decide +kernel
  have f30 : En.findX [ofE [97] 2, ofE [97] 1] [97] 0 = none := by decide +kernel
  have e37 : En.putE [ofE [97] 2, ofE [97] 1] (ofE [97] 1) = 100 := by decide +kernel
  have e42 : En.putE [] e0 = 60 := by decide +kernel
  have e98 : En.putE [] (ofE [97] 1) = 0 := by decide +kernel
  refine Rets.of (n := 101) (vs := []) Try.func6 rfl rfl rfl ?_
  refine TC.seq ?_
  refine TC.region ?_
  refine TL.assign rfl rfl ?_
  refine TL.done ?_
  refine Thn.go ?_
  refine TC.seq ?_
  refine TC.region ?_
  refine TL.call can22 rfl rfl (fn22 [97] 2 w) (fun v19 w19 hr19 => ?_)
  obtain ⟨rfl, hc19⟩ := hr19
  refine TL.call can22 rfl rfl (fn22 [97] 1 w19) (fun v20 w20 hr20 => ?_)
  obtain ⟨rfl, hc20⟩ := hr20
  refine TL.buildSlice [.tmp 19, .tmp 20] sl22 rfl rfl rfl (by decide) (by first | simp [Value.cells]; done | simp [Value.cells, cl_len]; done) rfl (fun w21 hb21 hc21 hz21 => ?_)
  have r21 : Rd w21 (.slice (some ⟨w20.heap.size, 0, none⟩) 2 2) 4 2 ([ofE [97] 2, ofE [97] 1].flatMap cl) := Rd.ofFlat (vs := [.agg (cl (ofE [97] 2)).toArray, .agg (cl (ofE [97] 1)).toArray]) hb21 (by simp [Value.cells, cl_len]) rfl (by decide)
  have q21 := hc19.trans0 (hc20.trans0 hc21)
  refine TL.assign rfl rfl ?_
  refine TL.done ?_
  refine Thn.go ?_
  refine TC.seq ?_
  refine TC.region ?_
  refine TL.move rfl rfl ?_
  refine TL.call can17 rfl rfl (fn17 _ [ofE [97] 2, ofE [97] 1] [97] 2 w21 r21) (fun v24 w24 hr24 => ?_)
  rw [e24, f24] at hr24
  obtain ⟨rfl, hc24⟩ := hr24
  refine TL.move rfl rfl ?_
  refine TL.extract rfl rfl rfl ?_
  refine TL.extract rfl rfl rfl ?_
  refine TL.extract rfl rfl rfl ?_
  refine TL.alloc ze30 rfl (fun w2 hb2 hc2 hz2 => ?_)
  refine TL.store sz30 rfl rfl rfl hb2 (by simp [Value.cells]) (by simpa [Value.cells] using cl_one (ofE [97] 2)) (.inl rfl) (fun ws1 hbs1 hcs1 hzs1 => ?_)
  replace hbs1 : Has ws1 w24.heap.size (cl (ofE [97] 2)).toArray 30 (0, 0) := hbs1.setAll rfl
  have k1 : Ch [] w21 ws1 := hc24.trans0 (hc2.then1 hcs1 (Nat.le_refl _))
  refine TL.assign rfl rfl ?_
  refine TL.assign rfl rfl ?_
  refine TL.done ?_
  refine Thn.go ?_
  refine TC.seq ?_
  refine TC.region ?_
  refine TL.move rfl rfl ?_
  refine TL.call can17 rfl rfl (fn17 _ [ofE [97] 2, ofE [97] 1] [97] 0 ws1 (r21.ch0 k1)) (fun v30 w30 hr30 => ?_)
  rw [e30, f30] at hr30
  obtain ⟨rfl, hc30⟩ := hr30
  refine TL.move rfl rfl ?_
  refine TL.extract rfl rfl rfl ?_
  refine TL.extract rfl rfl rfl ?_
  refine TL.extract rfl rfl rfl ?_
  refine TL.alloc ze30 rfl (fun w5 hb5 hc5 hz5 => ?_)
  refine TL.store sz30 rfl rfl rfl hb5 (by simp [Value.cells]) (by simpa [Value.cells] using cl_one e0) (.inl rfl) (fun ws2 hbs2 hcs2 hzs2 => ?_)
  have j2 : Ch [] ws1 ws2 := hc30.trans0 (hc5.then1 hcs2 (Nat.le_refl _))
  refine TL.assign rfl rfl ?_
  refine TL.assign rfl rfl ?_
  refine TL.done ?_
  refine Thn.go ?_
  refine TC.seq ?_
  refine TC.region ?_
  refine TL.move rfl rfl ?_
  refine TL.call can22 rfl rfl (fn22 [97] 1 ws2) (fun v36 w36 hr36 => ?_)
  obtain ⟨rfl, hc36⟩ := hr36
  refine TL.call can16 rfl rfl (fn16 _ [ofE [97] 2, ofE [97] 1] (ofE [97] 1) w36 (((r21.ch0 k1).ch0 j2).ch0 hc36)) (fun v37 w37 hr37 => ?_)
  rw [e37] at hr37
  obtain ⟨o37, rfl, _, hc37⟩ := hr37
  refine TL.move rfl rfl ?_
  refine TL.extract rfl rfl rfl ?_
  refine TL.extract rfl rfl rfl ?_
  refine TL.assign rfl rfl ?_
  refine TL.assign rfl rfl ?_
  refine TL.done ?_
  refine Thn.go ?_
  refine TC.seq ?_
  refine TC.region ?_
  refine TL.buildRec [] [] (cl e0) rfl rfl (by kernel_rfl) rfl ?_
  refine TL.call can16 rfl rfl (fn16 (.slice none 0 0) [] e0 w37 (Rd.nil w37 4)) (fun v42 w42 hr42 => ?_)
  rw [e42] at hr42
  obtain ⟨o42, rfl, _, hc42⟩ := hr42
  refine TL.move rfl rfl ?_
  refine TL.extract rfl rfl rfl ?_
  refine TL.extract rfl rfl rfl ?_
  refine TL.assign rfl rfl ?_
  refine TL.assign rfl rfl ?_
  refine TL.done ?_
  refine Thn.go ?_
  refine TC.seq ?_
  refine TC.region ?_
  refine TL.assign rfl rfl ?_
  refine TL.done ?_
  refine Thn.go ?_
  refine TC.seq ?_
  refine TC.region ?_
  refine TL.buildRec [] [] ([.pointer none, .int .i64 0, .int .u32 0]) rfl rfl (by kernel_rfl) rfl ?_
  refine TL.box rfl rfl (fun w46 hb46 hc46 hz46 => ?_)
  refine TL.assign rfl rfl ?_
  refine TL.done ?_
  refine Thn.go ?_
  refine TC.seq ?_
  refine TC.region ?_
  refine TL.move rfl rfl ?_
  refine TL.call can12 rfl rfl (fn12zero w42.heap.size (.int .i64 0) (.int .u32 0) [97] 1 w46 (show Has w46 w42.heap.size #[.pointer none, .int .i64 0, .int .u32 0] 52 (0, 0) from hb46)) (fun v49 w49 hr49 => ?_)
  obtain ⟨rfl, hc49⟩ := hr49
  refine TL.move rfl rfl ?_
  refine TL.extract rfl rfl rfl ?_
  refine TL.extract rfl rfl rfl ?_
  refine TL.extract rfl rfl rfl ?_
  refine TL.alloc ze30 rfl (fun w14 hb14 hc14 hz14 => ?_)
  refine TL.store sz30 rfl rfl rfl hb14 (by simp [Value.cells]) (by simpa [Value.cells] using cl_one e0) (.inl rfl) (fun ws3 hbs3 hcs3 hzs3 => ?_)
  have j3 : Ch [] ws1 ws3 := j2.trans0 (hc36.trans0 (hc37.trans0 (hc42.trans0 (hc46.trans0 (hc49.trans0 (hc14.then1 hcs3 (Nat.le_refl _)))))))
  refine TL.assign rfl rfl ?_
  refine TL.assign rfl rfl ?_
  refine TL.done ?_
  refine Thn.go ?_
  refine TC.seq ?_
  refine TC.region ?_
  refine TL.move rfl rfl ?_
  refine TL.call can14 rfl rfl (fn14nil ws3) (fun v55 w55 hr55 => ?_)
  obtain ⟨rfl, hc55⟩ := hr55
  refine TL.move rfl rfl ?_
  refine TL.extract rfl rfl rfl ?_
  refine TL.extract rfl rfl rfl ?_
  refine TL.assign rfl rfl ?_
  refine TL.assign rfl rfl ?_
  refine TL.done ?_
  refine Thn.go ?_
  refine TC.seq ?_
  refine TC.region ?_
  refine TL.move rfl rfl ?_
  refine TL.guardYes (d := 58) rfl rfl rfl ?_
  refine TL.call can20 rfl rfl (fn20 w55) (fun v59 w59 hr59 => ?_)
  obtain ⟨rfl, hc59⟩ := hr59
  refine TL.pickT rfl rfl rfl rfl ?_
  refine TL.move rfl rfl ?_
  refine TL.guardYes (d := 61) rfl rfl rfl ?_
  refine TL.move rfl rfl ?_
  refine TL.pickT rfl rfl rfl rfl ?_
  refine TL.move rfl rfl ?_
  refine TL.guardYes (d := 64) rfl rfl rfl ?_
  refine TL.fieldAddr fd30k2 rfl rfl ?_
  refine TL.guardYes (d := 64) rfl rfl rfl ?_
  refine TL.load pl3 rfl (((hbs1.ch0 (j3.trans0 hc55)).ch0 hc59).cell 2) rfl ?_
  refine TL.guardYes (d := 64) rfl rfl rfl ?_
  refine TL.eql rfl rfl rfl ?_
  refine TL.yes (rfl) ?_
  refine TL.pickT rfl rfl rfl rfl ?_
  refine TL.move rfl rfl ?_
  refine TL.guardYes (d := 69) rfl rfl rfl ?_
  refine TL.move rfl rfl ?_
  refine TL.guardYes (d := 69) rfl rfl rfl ?_
  refine TL.not rfl rfl ?_
  refine TL.pickT rfl rfl rfl rfl ?_
  refine TL.move rfl rfl ?_
  refine TL.guardYes (d := 73) rfl rfl rfl ?_
  refine TL.move rfl rfl ?_
  refine TL.guardYes (d := 73) rfl rfl rfl ?_
  refine TL.eql rfl rfl rfl ?_
  refine TL.yes (rfl) ?_
  refine TL.pickT rfl rfl rfl rfl ?_
  refine TL.move rfl rfl ?_
  refine TL.guardYes (d := 77) rfl rfl rfl ?_
  refine TL.move rfl rfl ?_
  refine TL.guardYes (d := 77) rfl rfl rfl ?_
  refine TL.eql rfl rfl rfl ?_
  refine TL.yes (rfl) ?_
  refine TL.pickT rfl rfl rfl rfl ?_
  refine TL.move rfl rfl ?_
  refine TL.guardYes (d := 81) rfl rfl rfl ?_
  refine TL.move rfl rfl ?_
  refine TL.guardYes (d := 81) rfl rfl rfl ?_
  refine TL.call can22 rfl rfl (fn22 [97] 1 w59) (fun v83 w83 hr83 => ?_)
  obtain ⟨rfl, hc83⟩ := hr83
  refine TL.guardYes (d := 81) rfl rfl rfl ?_
  refine TL.call can10 rfl rfl (fn10nil (ofE [97] 1) w83) (fun v84 w84 hr84 => ?_)
  obtain ⟨rfl, hc84⟩ := hr84
  refine TL.guardYes (d := 81) rfl rfl rfl ?_
  refine TL.eql rfl rfl rfl ?_
  refine TL.yes (rfl) ?_
  refine TL.pickT rfl rfl rfl rfl ?_
  refine TL.move rfl rfl ?_
  refine TL.guardYes (d := 87) rfl rfl rfl ?_
  refine TL.move rfl rfl ?_
  refine TL.guardYes (d := 87) rfl rfl rfl ?_
  refine TL.eql rfl rfl rfl ?_
  refine TL.yes (rfl) ?_
  refine TL.pickT rfl rfl rfl rfl ?_
  refine TL.move rfl rfl ?_
  refine TL.guardYes (d := 91) rfl rfl rfl ?_
  refine TL.move rfl rfl ?_
  refine TL.guardYes (d := 91) rfl rfl rfl ?_
  refine TL.eql rfl rfl rfl ?_
  refine TL.yes (rfl) ?_
  refine TL.pickT rfl rfl rfl rfl ?_
  refine TL.move rfl rfl ?_
  refine TL.guardYes (d := 95) rfl rfl rfl ?_
  refine TL.call can9 rfl rfl (fn9 w84) (fun v96 w96 hr96 => ?_)
  obtain ⟨Q, hd, rfl, hSk, hge, hc96⟩ := hr96
  have q84 : Ch [] w w84 := q21.trans0 (k1.trans0 (j3.trans0 (hc55.trans0 (hc59.trans0 (hc83.trans0 hc84)))))
  refine TL.guardYes (d := 95) rfl rfl rfl ?_
  refine TL.call can22 rfl rfl (fn22 [97] 1 w96) (fun v97 w97 hr97 => ?_)
  obtain ⟨rfl, hc97⟩ := hr97
  refine TL.guardYes (d := 95) rfl rfl rfl ?_
  refine TL.call can10 rfl rfl (fn10s Q hd [] [] (ofE [97] 1) rfl rfl w97 (hSk.ch0 hc97)) (fun v98 w98 hr98 => ?_)
  rw [e98] at hr98
  obtain ⟨rfl, ⟨N2, _, _, hft⟩, hc98⟩ := hr98
  refine TL.guardYes (d := 95) rfl rfl rfl ?_
  refine TL.eql rfl rfl rfl ?_
  refine TL.pickT rfl rfl rfl rfl ?_
  refine TL.assign rfl rfl ?_
  refine TL.done ?_
  refine Thn.go ?_
  refine TC.ret ?_
  refine Ends.ret [0] rfl rfl ?_
  exact ⟨by first | rfl | (simp; rfl), (q84.trans0 (hc96.trans0 hc97)).thenS hc98 (fun b hb => by have := hge b hb; have := q84.size; omega)⟩

